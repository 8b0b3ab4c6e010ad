/-
  SM25, SM26, SM27, SM8s, SM28, SY1, SY9, SM29, SM30, SM31, Dsp, SM32, SM33, SM34, SM35, Dsr, SO1, SO2 (merged for the claim).
-/
import Derived.Test.YtlpiamlgibomhaaGreatSM24
import Derived.Test.YtlpiamlgibomhaaGreatSM8
import Derived.Test.YtlpiamlgibomhaaGreatSP4
import Derived.Test.YtlpiamlgibomhaaGreatRows
import Derived.Test.YtlpiamlgibomhaaGreatUV
import Derived.Test.YtlpiamlgibomhaaGreatSM3
set_option linter.unusedSimpArgs false
set_option linter.unusedVariables false
namespace Go.Proofs.YtlpiamlgibomhaaGreat
open Go.Vl Go.RowKit Go.Dg
def revL (s:Sg):Nat→List Int:=cmpL s 1 (-1) 1
def revS (W:Int) (s:Sg):Sg:=Qc8 (W-s.t) (W-s.f) (revL s) s.o
def Qxw (s:Sg):Prop:= ∀i,i<3→ ∀x∈revL s i,(x/(mdG (revL s) s.o 3:Int)).natAbs≤4611686018427387904
def revK (p:List Sg) (k:Nat):List Sg:=(List.range k).map fun j=>revS (pBeg p+pEnd p) (p.getD (p.length-1-j) sg0)
def revP (p:List Sg):List Sg:=revK p p.length
theorem Q35 (p:List Sg) (k:Nat):revK p (k+1)=revK p k++[revS (pBeg p+pEnd p) (p.getD (p.length-1-k) sg0)]:=by simp [revK,List.range_succ]
theorem Qxx (p:List Sg) (k:Nat):(revK p k).length=k:=by simp [revK]
theorem Zbs {s:Sg} (hv:Qav s=true):Qll (revL s) s.o=true:=by
 obtain⟨⟨v1,v2,v3,v4,v5⟩, -, -⟩:=Qao hv
 refine decide_eq_true ?_
 unfold mdO
 exact Int.le_trans (Int.ediv_le_self _ (by omega)) v5
theorem Zbt:i64 1:=by unfold i64;omega
theorem Zim:i64 (-1):=by unfold i64;omega
theorem Zkq {s:Sg} (hs:okSg s) (hv:Qav s=true): ∀i,i<3→bd 12000 (revL s i)∧(revL s i).length≤6:=by
 intro i hi
 have hm:=Qgu s i hi
 obtain⟨l1,l6, -, -⟩:=Qb5 ((Qao hv).2.1 _ hm)
 exact⟨(Qsr l6 (fun x hx=>Qay (hs.c _ hm x hx)) (Qay Zbt) (Qay Zim) (Qay Zbt)).2,Q3u l6⟩
theorem Zqk (s:Sg) (W:Int) (hs:okSg s) (hv:Qav s=true) (hf:Qxw s):
  Qaf Tryz.prog 78 [.int .i64 (W-s.t),.int .i64 (W-s.f),.agg [wL (revL s 0),wL (revL s 1),wL (revL s 2)],wPV s.o] (.tup [sgPV (revS W s),.bool true]):=by
 have hbd:=Zkq hs hv
 obtain⟨⟨v1,v2,v3,v4,v5⟩, -, -⟩:=Qao hv
 have h:=Q3v (W-s.t) (W-s.f) (revL s) s.o 12000 (by decide) (by omega) (Qev (C:=12000) (Qay hs.o) (by decide)) (fun i hi=>(hbd i hi).1) (fun i hi=>by have:=(hbd i hi).2;omega) (fun _=>hf)
 rw [if_pos (Zbs hv)]at h
 exact h
def rvB (p:List Sg):Nat→List (Nat×Box)
 |0=>[(1000000,{els:=[.int .i64 (pBeg p)],esz:=1,ety:=3,fro:=0,live:=true,arr:=false}),(1000001,{els:=[.int .i64 (pEnd p)],esz:=1,ety:=3,fro:=0,live:=true,arr:=false}),(1000002,{els:=[.nilS],esz:=1,ety:=27,fro:=0,live:=true,arr:=false})]
 |k+1=>[(1000000,{els:=[.int .i64 (pBeg p)],esz:=1,ety:=3,fro:=0,live:=true,arr:=false}),(1000001,{els:=[.int .i64 (pEnd p)],esz:=1,ety:=3,fro:=0,live:=true,arr:=false}),(1000002,{els:=[.bs 7 6 0 (k+1)],esz:=1,ety:=27,fro:=0,live:=true,arr:=false}),(7,{els:=(revK p (k+1)).map sgPV,esz:=6,ety:=24,fro:=0,live:=true,arr:=true})]
theorem Ztk (p:List Sg) (k:Nat): ∀b∈ [1000000,1000001,1000002],(lkp (rvB p k) b).isSome=true:=by
 cases k<;>simp [rvB,lkp]
def Qgy (p:List Sg):PV:=if Qa4 p=true then .tup [Qan (revP p),.int .i64 0]else .tup [Qan [],.int .i64 2]
theorem Qds {p:List Sg} (hV:Qa4 p=true):0≤pBeg p∧pBeg p≤3600000∧0≤pEnd p∧pEnd p≤3600000:=by
 have h:=(Qba hV).2.1
 have h1:p.length-1<p.length:=by omega
 have h0:0<p.length:=by omega
 obtain⟨⟨a1,a2,a3, -, -⟩, -, -⟩:=Qao (Qbp hV _ h0)
 obtain⟨⟨b1,b2,b3, -, -⟩, -, -⟩:=Qao (Qbp hV _ h1)
 unfold pBeg pEnd
 rw [sgD h0,sgD h1]
 omega
set_option maxHeartbeats 4000000 in
theorem Qpq (p:List Sg) (hp: ∀s∈p,okSg s) (hl:p.length≤100000) (hfit:Qa4 p=true→ ∀s∈p,Qxw s):Qaf Tryz.prog 37 [Qan p] (Qgy p):=by
 have hs:=Qq9 p hp (by omega)
 unfold Qgy
 unfold Qan at hs
 cases hV:Qa4 p with
 |false=>
  rw [hV]at hs
  simp only [Bool.false_eq_true,if_false]at hs
  unfold Qan
  refine Qac (tb:=[]) 51 [.tmp 2,.tmp 3] [0,2,3,4,5,6,7,9,10,19,22,23,24] mixed Tryz.func37 rfl (by kernel_rfl) (by kernel_rfl) (by kernel_rfl) (by kernel_rfl) ?_
  repeat (first|(simp -implicitDefEqProofs only [go_sem,Nat.reduceAdd,Nat.reduceMul,Nat.reduceEqDiff,Nat.reduceLT,Nat.reduceLeDiff,reduceCtorEq,Int.reduceNeg,Zbz,Bool.false_eq_true,if_false,List.map_nil])|((with_reducible refine Qab (hs) ?_ ?_ ?_);(with_reducible rfl);rfl)|(with_reducible exact Qaa _ _ (by kernel_rfl))|(with_reducible refine And.intro (Qaa _ _ (by kernel_rfl)) ?_))
 |true=>
  rw [hV]at hs
  simp only [if_true]at hs ⊢
  have hv:=Qfo hV
  have hft:=hfit hV
  obtain⟨e1,e2,e3,e4⟩:=Qds hV
  have h1:=Ztj p
  have hY:=Zqj p hl
  unfold Qan at h1 hY ⊢
  obtain⟨n,hn1⟩: ∃n,p.length=n+1:=⟨p.length-1,by have:=(Qba hV).2.1;omega⟩
  have hlo:(Qej p).length=n+1:=by simp [Qej,hn1]
  have hmin:min (Qej p).length (n+1+1)=n+1:=by omega
  have wab:IntKind.i64.wrap (pBeg p+pEnd p)=pBeg p+pEnd p:=Qai (by omega) (by omega)
  refine Qac (tb:=[]) 51 [.tmp 2,.tmp 3] [0,2,3,4,5,6,7,9,10,19,22,23,24] mixed Tryz.func37 rfl (by kernel_rfl) (by kernel_rfl) (by kernel_rfl) (by kernel_rfl) ?_
  repeat (first|(simp -implicitDefEqProofs only [go_sem,Nat.reduceAdd,Nat.reduceMul,Nat.reduceEqDiff,Nat.reduceLT,Nat.reduceLeDiff,reduceCtorEq,Int.reduceNeg,Qf5,Bool.false_eq_true,if_false])|((with_reducible refine Qab (hs) ?_ ?_ ?_);(with_reducible rfl);rfl)|((with_reducible refine Qab (h1) ?_ ?_ ?_);(with_reducible rfl);rfl)|(with_reducible exact Qaa _ _ (by kernel_rfl))|(with_reducible refine And.intro (Qaa _ _ (by kernel_rfl)) ?_))
  refine Qr6 mixed hY rfl rfl _ rfl [(1000000,106),(1000001,107),(1000002,400)] [1000000,1000001,1000002] rfl [(4,.bp 1000000 1 0 0),(5,.bp 1000001 1 0 0),(7,.bp 1000002 1 0 0)] (rvB p) rfl rfl ?_ ?_ ?_ (n+1) .normal (fun h=>by omega) (fun k _ _=>Ztk p k) ?_ rfl ?_
   [(400,1000002),(7,7)] [(7,.bp 400 1 0 0)] [(400,{els:=[.bs 7 6 0 (n+1)],esz:=1,ety:=27,fro:=0,live:=true,arr:=false}),(7,{els:=(revP p).map sgPV,esz:=6,ety:=24,fro:=0,live:=true,arr:=true})] rfl rfl ?_ ?_ (fun _=> ?_) (fun h=>by omega)
  ·simp [Qad,lkp,ren1,ren0,Qam]
  ·exact⟨⟨rfl,rfl,rfl,rfl,rfl,.inr ⟨rfl,_,_,rfl,rfl,rfl,rfl⟩⟩,⟨rfl,rfl,rfl,rfl,rfl,.inr ⟨rfl,_,_,rfl,rfl,rfl,rfl⟩⟩,⟨rfl,rfl,rfl,rfl,rfl,.inr ⟨rfl,_,_,rfl,rfl,rfl,rfl⟩⟩,trivial⟩
  ·simp [Qad,lkp,ren1,ren0,Qam,Qt3]
  ·intro k args h
   simp only [Qej,List.getElem?_map,Option.map_eq_some_iff]at h
   obtain⟨x, -,rfl⟩:=h
   rfl
  ·rintro k args hka hk
   have hkl:k<n+1:=by have:=(List.getElem?_eq_some_iff.1 hka).1;omega
   have hargs:args=bwdO p k:=by
    simp only [Qej,List.getElem?_map,List.getElem?_range (show k<p.length by omega),Option.map_some,Option.some.injEq]at hka
    exact hka.symm
   have hi:p.length-1-k<p.length:=by omega
   have hO:bwdO p k=[.int .i64 ((p.length-1-k:Nat):Int),sgPV p[p.length-1-k]]:=by unfold bwdO;rw [sgD hi]
   rw [hargs,hO]
   have hmem:=List.getElem_mem hi
   have hsn:=Q35 p k
   rw [sgD hi]at hsn
   have hok:=hp _ hmem
   have hvs:=hv _ hmem
   have f4:=Zqk p[p.length-1-k] (pBeg p+pEnd p) hok hvs (hft _ hmem)
   generalize p[p.length-1-k]=s at*
   generalize ((p.length-1-k:Nat):Int)=ix at*
   clear hO hargs hka hi hmem
   obtain⟨⟨v1,v2,v3,v4,v5⟩,hax, -⟩:=Qao hvs
   have w1:IntKind.i64.wrap (pBeg p+pEnd p-s.t)=pBeg p+pEnd p-s.t:=Qai (by omega) (by omega)
   have w2:IntKind.i64.wrap (pBeg p+pEnd p-s.f)=pBeg p+pEnd p-s.f:=Qai (by omega) (by omega)
   have f1:=Qpo s 1 (-1) 1 hok (fun c hc=>(Qb5 (hax c hc)).2.1) Zbt Zim Zbt (by omega)
   have eL:cmpL s 1 (-1) 1=revL s:=rfl
   rw [eL]at f1
   have f2:=Qe2 s.o hok.o.1 hok.o.2
   have hsn2:(revK p (k+1)).map sgPV=(revK p k).map sgPV++[.agg [.int .i64 (revS (pBeg p+pEnd p) s).f,.int .i64 (revS (pBeg p+pEnd p) s).t,.int .i64 (revS (pBeg p+pEnd p) s).o,.slc ((revS (pBeg p+pEnd p) s).x.map (PV.int .i64)),.slc ((revS (pBeg p+pEnd p) s).y.map (PV.int .i64)),.slc ((revS (pBeg p+pEnd p) s).z.map (PV.int .i64))]]:=by rw [hsn,List.map_append];rfl
   generalize revL s=L at*
   generalize revS (pBeg p+pEnd p) s=R at*
   unfold sgPV at f1 f4
   unfold wL at f1 f4
   have hlen:((revK p k).map sgPV).length=k:=by rw [List.length_map,Qxx]
   have hokf:=Qfn (revK p k)
   have c1:((k+1)*96≤140737488355328)=True:=eq_true (by omega)
   have c2:(k+1≤maxLen)=True:=eq_true (by unfold maxLen;omega)
   cases k with
   |zero=>
    simp only [rvB]
    have e0:(revK p 0).map sgPV=[]:=rfl
    rw [e0,List.nil_append]at hsn2
    repeat (first|(simp -implicitDefEqProofs only [go_sem,Nat.reduceAdd,Nat.reduceMul,Nat.reduceEqDiff,Nat.reduceLT,Nat.reduceLeDiff,reduceCtorEq,Int.reduceNeg,pvars,List.toList_toArray,sgPV])|(with_reducible exact Qaa _ _ (by kernel_rfl))|(with_reducible refine And.intro (Qaa _ _ (by kernel_rfl)) ?_))
    refine⟨by simp [lkp],?_⟩
    repeat (first|(simp -implicitDefEqProofs only [go_sem,Nat.reduceAdd,Nat.reduceMul,Nat.reduceEqDiff,Nat.reduceLT,Nat.reduceLeDiff,reduceCtorEq,Int.reduceNeg,wPV,wab,w1,w2])|((with_reducible refine Qab (f1) ?_ ?_ ?_);(with_reducible rfl);rfl)|((with_reducible refine Qab (f2) ?_ ?_ ?_);(with_reducible rfl);rfl)|((with_reducible refine Qab (f4) ?_ ?_ ?_);(with_reducible rfl);rfl)|(with_reducible exact Qaa _ _ (by kernel_rfl))|(with_reducible refine And.intro (Qaa _ _ (by kernel_rfl)) ?_))
    refine⟨by omega,?_⟩
    refine Qak (θ:=[(1000000,1000000),(1000001,1000001),(1000002,1000002),(7,803)]) rfl ?_ ?_
    ·simp [Qad,lkp,ren1,ren0,Qam]
    ·simp only [rvB,hsn2]
     exact⟨⟨rfl,rfl,rfl,rfl,rfl,.inr ⟨rfl,_,_,rfl,rfl,rfl,rfl⟩⟩,⟨rfl,rfl,rfl,rfl,rfl,.inr ⟨rfl,_,_,rfl,rfl,rfl,rfl⟩⟩,⟨rfl,rfl,rfl,rfl,rfl,.inr ⟨rfl,_,_,rfl,rfl,rfl,rfl⟩⟩,⟨rfl,rfl,rfl,rfl,rfl,.inl ⟨rfl,rfl⟩⟩,trivial⟩
   |succ k=>
    simp only [rvB]
    generalize (revK p (k+1)).map sgPV=T at*
    repeat (first|(simp -implicitDefEqProofs only [go_sem,Nat.reduceAdd,Nat.reduceMul,Nat.reduceEqDiff,Nat.reduceLT,Nat.reduceLeDiff,reduceCtorEq,Int.reduceNeg,pvars,List.toList_toArray,sgPV])|(with_reducible exact Qaa _ _ (by kernel_rfl))|(with_reducible refine And.intro (Qaa _ _ (by kernel_rfl)) ?_))
    refine⟨by simp [lkp],?_⟩
    repeat (first|(simp -implicitDefEqProofs only [go_sem,Nat.reduceAdd,Nat.reduceMul,Nat.reduceEqDiff,Nat.reduceLT,Nat.reduceLeDiff,reduceCtorEq,Nat.reduceBneDiff,Int.reduceNeg,wPV,wab,w1,w2,hlen,hokf,c1,c2])|((with_reducible refine Qab (f1) ?_ ?_ ?_);(with_reducible rfl);rfl)|((with_reducible refine Qab (f2) ?_ ?_ ?_);(with_reducible rfl);rfl)|((with_reducible refine Qab (f4) ?_ ?_ ?_);(with_reducible rfl);rfl)|(with_reducible exact Qaa _ _ (by kernel_rfl))|(with_reducible refine And.intro (Qaa _ _ (by kernel_rfl)) ?_))
    refine⟨by omega,?_⟩
    refine Qak (θ:=[(1000000,1000000),(1000001,1000001),(1000002,1000002),(7,803)]) rfl ?_ ?_
    ·simp [Qad,lkp,ren1,ren0,Qam]
    ·simp only [rvB,hsn2]
     exact⟨⟨rfl,rfl,rfl,rfl,rfl,.inr ⟨rfl,_,_,rfl,rfl,rfl,rfl⟩⟩,⟨rfl,rfl,rfl,rfl,rfl,.inr ⟨rfl,_,_,rfl,rfl,rfl,rfl⟩⟩,⟨rfl,rfl,rfl,rfl,rfl,.inr ⟨rfl,_,_,rfl,rfl,rfl,rfl⟩⟩,⟨rfl,rfl,rfl,rfl,rfl,.inl ⟨rfl,rfl⟩⟩,trivial⟩
  ·simp [Qad,lkp,ren1,ren0,Qam]
  ·rw [hmin]
   have e:revK p (n+1)=revP p:=by unfold revP;rw [hn1]
   simp only [rvB,e]
   exact⟨⟨rfl,rfl,rfl,rfl,rfl,.inr ⟨rfl,_,_,rfl,rfl,rfl,rfl⟩⟩,⟨rfl,rfl,rfl,rfl,rfl,.inl ⟨rfl,rfl⟩⟩,trivial⟩
  ·have b1:((revP p).map sgPV).length=n+1:=by rw [List.length_map,revP,Qxx,hn1]
   have b2:(((revP p).map sgPV).flatMap PV.cells).all PV.okCell=true:=Qfn _
   have b3:((revP p).map sgPV).take (n+1)=(revP p).map sgPV:=List.take_of_length_le (by omega)
   generalize (revP p).map sgPV=T at*
   repeat (first|(simp -implicitDefEqProofs only [go_sem,Nat.reduceAdd,Nat.reduceMul,Nat.reduceEqDiff,Nat.reduceLT,Nat.reduceLeDiff,reduceCtorEq,b1,b2,b3])|(with_reducible exact Qaa _ _ (by kernel_rfl))|(with_reducible refine And.intro (Qaa _ _ (by kernel_rfl)) ?_))
end Go.Proofs.YtlpiamlgibomhaaGreat

namespace Go.Proofs.YtlpiamlgibomhaaGreat
open Go.Vl Go.RowKit Go.Dg
instance (x:Int):Decidable (i64 x):=by unfold i64;infer_instance
def okB (s:Sg):Bool:=decide (i64 s.f)&&(decide (i64 s.t)&&(decide (i64 s.o)&&(s.ax.all fun c=>c.all (fun x=>decide (i64 x))&&decide (c.length≤1000))))
theorem Q36 {s:Sg} (h:okB s=true):okSg s:=by
 unfold okB at h
 simp only [Bool.and_eq_true,decide_eq_true_eq,List.all_eq_true]at h
 obtain⟨h1,h2,h3,h4⟩:=h
 exact⟨h1,h2,h3,fun c hc=>(h4 c hc).1,fun c hc=>(h4 c hc).2⟩
theorem Zin {p:List Sg} (h:p.all okB=true): ∀s∈p,okSg s:=fun s hs=>Q36 (List.all_eq_true.1 h s hs)
def ex0:List Sg:=[⟨1000,3000,1,[100,20],[0,0,8],[50]⟩]
def exS:List Sg:=[⟨3000,4000,1,[120],[8],[50]⟩]
theorem Qi3: ∀s∈ex0,okSg s:=Zin (by decide+kernel)
theorem Zql: ∀s∈exS,okSg s:=Zin (by decide+kernel)
theorem Qct:Qa4 ex0=true:=by decide+kernel
theorem Zqm {n:Nat} (h0:0<n) (h:n<256):digs 256 n=[n]:=by
 rw [digs,dif_neg (by omega),Nat.mod_eq_of_lt h,Nat.div_eq_of_lt h,Qaz]
theorem mB_1 {n:Nat} (h0:0<n) (h:n<256):mB (n:Int)=⟨#[UInt8.ofNat n]⟩:=by
 unfold mB magL
 rw [Int.natAbs_natCast,Zqm h0 h];rfl
theorem at0:atPV ex0 2000= .tup [vPV 110 2 50,.int .i64 0]:=by
 have h1:lasts ex0 2000=true:=by decide+kernel
 have e1:rnd (exQ ex0 2000 0) (exO ex0 2000)=110:=by decide+kernel
 have e2:rnd (exQ ex0 2000 1) (exO ex0 2000)=2:=by decide+kernel
 have e3:rnd (exQ ex0 2000 2) (exO ex0 2000)=50:=by decide+kernel
 unfold atPV
 rw [if_pos Qct,if_pos h1,e1,e2,e3]
theorem at1:atPV ex0 1500= .tup [vPV 105 1 50,.int .i64 0]:=by
 have h1:lasts ex0 1500=true:=by decide+kernel
 have e1:rnd (exQ ex0 1500 0) (exO ex0 1500)=105:=by decide+kernel
 have e2:rnd (exQ ex0 1500 1) (exO ex0 1500)=1:=by decide+kernel
 have e3:rnd (exQ ex0 1500 2) (exO ex0 1500)=50:=by decide+kernel
 unfold atPV
 rw [if_pos Qct,if_pos h1,e1,e2,e3]
theorem at2:atPV ex0 1250= .tup [vPV 103 0 50,.int .i64 0]:=by
 have h1:lasts ex0 1250=true:=by decide+kernel
 have e1:rnd (exQ ex0 1250 0) (exO ex0 1250)=103:=by decide+kernel
 have e2:rnd (exQ ex0 1250 1) (exO ex0 1250)=0:=by decide+kernel
 have e3:rnd (exQ ex0 1250 2) (exO ex0 1250)=50:=by decide+kernel
 unfold atPV
 rw [if_pos Qct,if_pos h1,e1,e2,e3]
theorem ex_q:exQ ex0 1500 0=210∧exQ ex0 1500 1=1∧exQ ex0 1500 2=100∧exO ex0 1500=2∧lasts ex0 1500=true:=by decide+kernel
theorem Zkr:Qk2 ex0 2000 3000= .tup [Qan [⟨2000,3000,1,[110,10],[2,4,2],[50]⟩],.int .i64 0]:=by
 have h1:pBeg ex0≤2000∧(2000:Int)<3000∧3000≤pEnd ex0:=by decide+kernel
 have h2:(spans ex0 2000 3000).all spF=true:=by decide+kernel
 have h3:(spans ex0 2000 3000).map spS=[⟨2000,3000,1,[110,10],[2,4,2],[50]⟩]:=by kernel_rfl
 unfold Qk2 Qlm
 rw [if_pos Qct,if_pos h1,if_pos h2,h3]
theorem Zks:Qk2 ex0 1000 1500= .tup [Qan [⟨1000,1500,2,[200,10],[0,0,1],[100]⟩],.int .i64 0]:=by
 have h1:pBeg ex0≤1000∧(1000:Int)<1500∧1500≤pEnd ex0:=by decide+kernel
 have h2:(spans ex0 1000 1500).all spF=true:=by decide+kernel
 have h3:(spans ex0 1000 1500).map spS=[⟨1000,1500,2,[200,10],[0,0,1],[100]⟩]:=by kernel_rfl
 unfold Qk2 Qlm
 rw [if_pos Qct,if_pos h1,if_pos h2,h3]
theorem Zqn:Qgy ex0= .tup [Qan [⟨1000,3000,1,[120, -20],[8, -16,8],[50]⟩],.int .i64 0]:=by
 have h3:revP ex0=[⟨1000,3000,1,[120, -20],[8, -16,8],[50]⟩]:=by kernel_rfl
 unfold Qgy
 rw [if_pos Qct,h3]
theorem Zqo: ∀s∈ex0,Qxw s:=by unfold Qxw;decide+kernel
theorem Zkt:Qu5 ex0 ex0= .tup [Qan [],.int .i64 10]:=by
 have h: ¬Qng ex0 ex0=true:=by decide+kernel
 unfold Qu5
 rw [if_pos ⟨Qct,Qct⟩,if_neg h]
theorem Zku:Qu5 ex0 exS= .tup [Qan (ex0++exS),.int .i64 0]:=by
 have h:Qng ex0 exS=true:=by decide+kernel
 have h2:Qa4 exS=true:=by decide+kernel
 unfold Qu5
 rw [if_pos ⟨Qct,h2⟩,if_pos h];rfl
end Go.Proofs.YtlpiamlgibomhaaGreat

namespace Go.Proofs.YtlpiamlgibomhaaGreat
open Go.Vl Go.RowKit Go.Dg
theorem Q37:Qaf Tryz.prog 45 [] (Qan ex0):=by
 refine Qac (tb:=[]) 6 [.tmp 0] [0] mixed Tryz.func45 rfl (by kernel_rfl) (by kernel_rfl) (by kernel_rfl) (by kernel_rfl) ?_
 repeat (first|(simp -implicitDefEqProofs only [go_sem,Nat.reduceAdd,Nat.reduceMul,Nat.reduceEqDiff,Nat.reduceLT,Nat.reduceLeDiff,reduceCtorEq]))
 rfl
theorem Zbu:Qcx Tryz.prog 45 [] [] (.bs 104 6 0 1) [(104,{els:=ex0.map sgPV,esz:=6,ety:=24,fro:=0,live:=true,arr:=true})]:=by
 refine Qb2 (tb:=[]) 6 [.tmp 0] [0] mixed Tryz.func45 rfl (by kernel_rfl) (by kernel_rfl) (by kernel_rfl) (by kernel_rfl) (by rfl) ?_
 repeat (first|(simp -implicitDefEqProofs only [go_sem,Nat.reduceAdd,Nat.reduceMul,Nat.reduceEqDiff,Nat.reduceLT,Nat.reduceLeDiff,reduceCtorEq]))
 refine Qbm (.inl rfl) ?_
 simp -implicitDefEqProofs only [go_sem]
 refine Qak (θ:=[(104,104)]) rfl ?_ ?_
 ·simp [Qad,lkp,ren1,ren0,Qam]
 ·exact⟨⟨rfl,rfl,rfl,rfl,rfl,.inl ⟨rfl,rfl⟩⟩,trivial⟩
theorem Zkv (t x y z:Int) (ht:i64 t) (h:atPV ex0 t= .tup [vPV x y z,.int .i64 0]):Qaf Tryz.prog 44 [.int .i64 t,.agg [.int .i64 x,.int .i64 y,.int .i64 z]] (.bool true):=by
 have h1:=Q37
 have h2:=Zqf ex0 t Qi3 (by decide) ht
 rw [h]at h2
 unfold Qan at h1 h2
 unfold vPV at h2
 generalize ex0.map sgPV=E at*
 refine Qac (tb:=[]) 20 [.tmp 4] [0,1,3,4,5,6] mixed Tryz.func44 rfl (by kernel_rfl) (by kernel_rfl) (by kernel_rfl) (by kernel_rfl) ?_
 repeat (first|(simp -implicitDefEqProofs only [go_sem,Nat.reduceAdd,Nat.reduceMul,Nat.reduceEqDiff,Nat.reduceLT,Nat.reduceLeDiff,reduceCtorEq,beq_self_eq_true,Qi7])|((with_reducible refine Qab (h1) ?_ ?_ ?_);(with_reducible rfl);rfl)|((with_reducible refine Qab (h2) ?_ ?_ ?_);(with_reducible rfl);rfl))
theorem Zqp (s w:Sg) (hs: ∀c∈s.ax,c.length≤1000000000) (hw: ∀c∈w.ax,c.length≤1000000000):Qaf Tryz.prog 46 [.slc [sgPV s],.int .i64 0,sgPV w] (.bool (Qkb s w)):=by
 have h:=Qi6 s w hs hw
 unfold sgPV Qaq at h ⊢
 generalize Qkb s w=b at*
 have g0: ∀v:PV,[v][0]? =some v:=fun _=>rfl
 refine Qac (tb:=[]) 21 [.tmp 6] [0,1,2,5,6] mixed Tryz.func46 rfl (by kernel_rfl) (by kernel_rfl) (by kernel_rfl) (by kernel_rfl) ?_
 repeat (first|(simp -implicitDefEqProofs only [go_sem,Nat.reduceAdd,Nat.reduceMul,Nat.reduceEqDiff,Nat.reduceLT,Nat.reduceLeDiff,reduceCtorEq,Qi7,g0,List.length_cons,List.length_nil])|((with_reducible refine Qab (h) ?_ ?_ ?_);(with_reducible rfl);rfl)|(with_reducible exact Qaa _ _ (by kernel_rfl))|(with_reducible refine And.intro (Qaa _ _ (by kernel_rfl)) ?_))
theorem Q38 (P:List PV) (e w:Int):Qaf Tryz.prog 25 [.slc P,.int .i64 e,.int .i64 w] (.bool ((e==w)&&((P.length:Int)==0))):=by
 refine Qac (tb:=[]) 15 [.tmp 6] [0,1,2,6] mixed Tryz.func25 rfl (by kernel_rfl) (by kernel_rfl) (by kernel_rfl) (by kernel_rfl) ?_
 cases h:(e==w)with
 |true=>repeat (first|(simp -implicitDefEqProofs only [go_sem,Nat.reduceAdd,Nat.reduceMul,Nat.reduceEqDiff,Nat.reduceLT,Nat.reduceLeDiff,reduceCtorEq,h,Bool.true_and]))
 |false=>repeat (first|(simp -implicitDefEqProofs only [go_sem,Nat.reduceAdd,Nat.reduceMul,Nat.reduceEqDiff,Nat.reduceLT,Nat.reduceLeDiff,reduceCtorEq,h,Bool.false_and]))
end Go.Proofs.YtlpiamlgibomhaaGreat

namespace Go.Proofs.YtlpiamlgibomhaaGreat
open Go.Vl Go.RowKit Go.Dg
theorem Qnm (a b:List Sg) (ha:lenP a) (hb:lenP b):Qaf Tryz.prog 24 [Qan a,Qan b] (.bool (Quu a b)):=by
 have la:=ha.1
 have lb:=hb.1
 by_cases hl:a.length=b.length
 case neg=>
  have n1:((a.length:Int) != (b.length:Int))=true:=by simp only [bne_iff_ne,ne_eq];omega
  unfold Quu
  rw [decide_eq_false hl,Bool.false_and]
  refine Qac (tb:=[]) 27 [.tmp 4] [0,1,4,5,10,14,26] mixed Tryz.func24 rfl (by kernel_rfl) (by kernel_rfl) (by kernel_rfl) (by kernel_rfl) ?_
  repeat (first|(simp -implicitDefEqProofs only [go_sem,Nat.reduceAdd,Nat.reduceMul,Nat.reduceEqDiff,Nat.reduceLT,Nat.reduceLeDiff,reduceCtorEq,List.length_map,n1])|(with_reducible exact Qaa _ _ (by kernel_rfl))|(with_reducible refine And.intro (Qaa _ _ (by kernel_rfl)) ?_))
 have n1:((a.length:Int) != (b.length:Int))=false:=by rw [hl];simp
 have e0:Quu a b=Qgt a b a.length:=by unfold Quu;rw [decide_eq_true hl,Bool.true_and]
 rw [e0]
 refine Qac (tb:=[]) 27 [.tmp 4] [0,1,4,5,10,14,26] mixed Tryz.func24 rfl (by kernel_rfl) (by kernel_rfl) (by kernel_rfl) (by kernel_rfl) ?_
 repeat (first|(simp -implicitDefEqProofs only [go_sem,Nat.reduceAdd,Nat.reduceMul,Nat.reduceEqDiff,Nat.reduceLT,Nat.reduceLeDiff,reduceCtorEq,List.length_map,n1])|(with_reducible exact Qaa _ _ (by kernel_rfl))|(with_reducible refine And.intro (Qaa _ _ (by kernel_rfl)) ?_))
 have z0:0≤a.length∧Qgt a b 0=true:=⟨Nat.zero_le _,rfl⟩
 refine Qas mixed (fun i:{i:Nat // i≤a.length∧Qgt a b i=true}=>St.of [(0,Qan a),(1,Qan b),(4,.bool false),(5,.int .i64 (i.1:Int))] []) (fun i=>a.length-i.1) ⟨0,z0⟩ ?_ ?_
 ·exact Qa3 (by simp [Qad,lkp,ren1,ren0,Qan])
 ·rintro⟨i,hi,hall⟩
  by_cases hA:i<a.length
  ·have hA':=ltT hA
   have n0:=nnT i
   have hB:i<b.length:=by omega
   have g1:=Qci a i hA
   have g2:=Qci b i hB
   have hwk:=Qah (a:=i) (by omega)
   have hs:=Qi6 a[i] b[i] (ha.2 _ (List.getElem_mem hA)) (hb.2 _ (List.getElem_mem hB))
   have es:Qkb (a.getD i sg0) (b.getD i sg0)=Qkb a[i] b[i]:=by rw [sgD hA,sgD hB]
   unfold sgPV Qaq at hs
   cases hx:Qkb a[i] b[i]with
   |true=>
    rw [hx]at hs
    have hn:Qgt a b (i+1)=true:=by rw [Quv,hall,es,hx];rfl
    repeat (first|(simp -implicitDefEqProofs only [go_sem,Nat.reduceAdd,Nat.reduceMul,Nat.reduceEqDiff,Nat.reduceLT,Nat.reduceLeDiff,reduceCtorEq,hA',n0,g1,g2,hwk,Int.toNat_natCast,List.length_map])|((with_reducible refine Qab (hs) ?_ ?_ ?_);(with_reducible rfl);rfl)|(with_reducible exact Qaa _ _ (by kernel_rfl))|(with_reducible refine And.intro (Qaa _ _ (by kernel_rfl)) ?_))
    refine⟨⟨i+1,hA,hn⟩,by simp only;omega,Qa3 (by simp [Qad,lkp,ren1,ren0,Qan])⟩
   |false=>
    rw [hx]at hs
    rw [Qzg (es.trans hx) hA]
    repeat (first|(simp -implicitDefEqProofs only [go_sem,Nat.reduceAdd,Nat.reduceMul,Nat.reduceEqDiff,Nat.reduceLT,Nat.reduceLeDiff,reduceCtorEq,hA',n0,g1,g2,Int.toNat_natCast,List.length_map])|((with_reducible refine Qab (hs) ?_ ?_ ?_);(with_reducible rfl);rfl)|(with_reducible exact Qaa _ _ (by kernel_rfl))|(with_reducible refine And.intro (Qaa _ _ (by kernel_rfl)) ?_))
  ·have hA':=ltF hA
   obtain rfl:i=a.length:=by omega
   repeat (first|(simp -implicitDefEqProofs only [go_sem,Nat.reduceAdd,Nat.reduceMul,Nat.reduceEqDiff,Nat.reduceLT,Nat.reduceLeDiff,reduceCtorEq,hA',hall,List.length_map])|(with_reducible exact Qaa _ _ (by kernel_rfl))|(with_reducible refine And.intro (Qaa _ _ (by kernel_rfl)) ?_))
end Go.Proofs.YtlpiamlgibomhaaGreat

namespace Go.Proofs.YtlpiamlgibomhaaGreat
open Go.Vl Go.RowKit Go.Dg
theorem Zbv (b:ByteArray):(b != b)=false:=by show(!(b==b))=false;rw [Qnr];rfl
theorem Qu6 {s:Sg} (h:(s.ax.all fun c=>Nat.ble c.length 1000)=true): ∀c∈s.ax,c.length≤1000000000:=fun c hc=>by
 have:=Nat.le_of_ble_eq_true (List.all_eq_true.1 h c hc);omega
theorem b210:mB 210=⟨#[210]⟩:=mB_1 (n:=210) (by decide) (by decide)
theorem b1:mB 1=⟨#[1]⟩:=mB_1 (n:=1) (by decide) (by decide)
theorem b100:mB 100=⟨#[100]⟩:=mB_1 (n:=100) (by decide) (by decide)
theorem b2:mB 2=⟨#[2]⟩:=mB_1 (n:=2) (by decide) (by decide)
def exPl:PV:= .agg [.bool false,.str ⟨#[210]⟩,.bool false,.str ⟨#[1]⟩,.bool false,.str ⟨#[100]⟩,.bool false,.str ⟨#[2]⟩]
theorem Qxy:Qae 210 1 100 2=exPl:=by unfold Qae;rw [b210,b1,b100,b2];rfl
theorem kexact:Qaf Tryz.prog 15 [Qan ex0,.int .i64 1500] (.tup [exPl,.int .i64 0]):=by
 have h:=Qrb ex0 1500 Qi3 (by decide) (by unfold i64;decide)
 obtain⟨q1,q2,q3,q4,q5⟩:=ex_q
 unfold Qno at h
 rwa [if_pos Qct,if_pos q5,q1,q2,q3,q4,Qxy]at h
theorem krexact:Qaf Tryz.prog 19 [Qan ex0,.int .i64 1500] (Qec [210,1,100] 2):=by
 obtain⟨q1,q2,q3,q4,q5⟩:=ex_q
 have h:=Zb4 ex0 1500 Qi3 (by decide) (by unfold i64;decide) Qct q5
 rwa [q1,q2,q3,q4]at h
theorem kout:Qaf Tryz.prog 20 [Qec [210,1,100] 2] exPl:=by
 have h:=Q4j 210 1 100 2 10 (by decide) (by decide) (by decide) (by decide) (by decide)
 rwa [Qxy]at h
theorem Ztl:Qaf Tryz.prog 23 [Qan ex0,.int .i64 2000,.int .i64 3000] (.tup [Qan [⟨2000,3000,1,[110,10],[2,4,2],[50]⟩],.int .i64 0]):=by
 have h:=Qsu ex0 2000 3000 Qi3 (by decide)
 rwa [Zkr]at h
theorem Ztm:Qaf Tryz.prog 23 [Qan ex0,.int .i64 1000,.int .i64 1500] (.tup [Qan [⟨1000,1500,2,[200,10],[0,0,1],[100]⟩],.int .i64 0]):=by
 have h:=Qsu ex0 1000 1500 Qi3 (by decide)
 rwa [Zks]at h
theorem krev:Qaf Tryz.prog 37 [Qan ex0] (.tup [Qan [⟨1000,3000,1,[120, -20],[8, -16,8],[50]⟩],.int .i64 0]):=by
 have h:=Qpq ex0 Qi3 (by decide) (fun _=>Zqo)
 rwa [Zqn]at h
theorem Ztn:Qaf Tryz.prog 27 [Qan ex0,Qan ex0] (.tup [Qan [],.int .i64 10]):=by
 have h:=Qnh ex0 ex0 Qi3 Qi3 (by decide) (by decide)
 rwa [Zkt]at h
theorem Zto:Qaf Tryz.prog 27 [Qan ex0,Qan exS] (.tup [Qan (ex0++exS),.int .i64 0]):=by
 have h:=Qnh ex0 exS Qi3 Zql (by decide) (by decide)
 rwa [Zku]at h
theorem kone (s:Sg) (h:(s.ax.all fun c=>Nat.ble c.length 1000)=true) (hs:Qkb s s=true):Qaf Tryz.prog 46 [.slc [sgPV s],.int .i64 0,sgPV s] (.bool true):=by
 have:=Zqp s s (Qu6 h) (Qu6 h)
 rwa [hs]at this
theorem Zio (p:List Sg) (h:p=ex0∨p=exS):Qaf Tryz.prog 24 [Qan p,Qan p] (.bool true):=by
 have hl:lenP p:=by rcases h with rfl|rfl<;>exact⟨by decide,fun s hs=>by rw [List.mem_singleton.1 hs];exact Qu6 rfl⟩
 have h1:=Qnm p p hl hl
 have h2:Quu p p=true:=by rcases h with rfl|rfl<;>decide+kernel
 rwa [h2]at h1
theorem kvalid (s:Sg) (b:Bool) (h:okB s=true) (h2:Qav s=b):Qaf Tryz.prog 13 [sgPV s] (.bool b):=by
 have:=Qxz s (Q36 h)
 rwa [h2]at this
set_option maxHeartbeats 8000000 in
set_option maxRecDepth 100000 in
theorem Qpr:Qaf Tryz.prog 12 [] (.bool true):=by
 have hpath:=Q37
 have hpathB:=Zbu
 have a0:=Zkv 2000 110 2 50 (by unfold i64;decide) at0
 have a1:=Zkv 1500 105 1 50 (by unfold i64;decide) at1
 have a2:=Zkv 1250 103 0 50 (by unfold i64;decide) at2
 have ke:=kexact
 have kr:=krexact
 have ko:=kout
 have c1:=Ztl
 have c2:=Ztm
 have r1:=krev
 have o1:=kone ⟨2000,3000,1,[110,10],[2,4,2],[50]⟩ rfl (by decide+kernel)
 have o2:=kone ⟨1000,1500,2,[200,10],[0,0,1],[100]⟩ rfl (by decide+kernel)
 have o3:=kone ⟨1000,3000,1,[120, -20],[8, -16,8],[50]⟩ rfl (by decide+kernel)
 have p1:=Ztn
 have p2:=Zto
 have f1:=Q38 [] 10 10
 have s1:=Zio ex0 (.inl rfl)
 have s2:=Zio exS (.inr rfl)
 have v1:=kvalid ⟨1000,3000,1,[100,20],[0,0,8],[50,0]⟩ false (by decide+kernel) (by decide+kernel)
 have v2:=kvalid ⟨1000,3000,2,[200],[2],[4]⟩ false (by decide+kernel) (by decide+kernel)
 have v3:=kvalid ⟨1000,3000,1,[100,20],[0,0,8],[50]⟩ true (by decide+kernel) (by decide+kernel)
 have fb:((10:Int)==10&&(([]:List PV).length:Int)==0)=true:=rfl
 rw [fb]at f1
 obtain⟨R1,R2,R3,hR⟩: ∃R1 R2 R3,Qec [210,1,100] 2= .agg [.slc R1,.bool R2,.slc R3]:=⟨_,_,_,rfl⟩
 rw [hR]at kr ko
 clear hR
 unfold exPl at ke ko
 simp only [Qan,ex0,exS,sgPV,Qaq,List.map_cons,List.map_nil,List.cons_append,List.nil_append]at hpath hpathB ke kr c1 c2 r1 o1 o2 o3 p1 p2 s1 s2 v1 v2 v3
 have g0: ∀v:PV,[v][0]? =some v:=fun _=>rfl
 have bl1:Nat.blt 1700 1000000=true:=rfl
 have bl2:Nat.blt 1701 1000000=true:=rfl

 refine Qac (tb:=[(1700,[],[(104,1700)]),(1701,[],[(104,1701)])]) 193 [.tmp 0] [0,1,2,3,4,5,6,7,8,9,10,11,12,13,14,27,81,109,153] mixed Tryz.func12 rfl (by kernel_rfl) (by kernel_rfl) (by kernel_rfl) (by kernel_rfl) ?_
 repeat (first|(simp -implicitDefEqProofs only [go_sem,Nat.reduceAdd,Nat.reduceMul,Nat.reduceEqDiff,Nat.reduceLT,Nat.reduceLeDiff,reduceCtorEq,Int.reduceNeg,g0,Qf5,Qi7,Bool.not_true,Bool.not_false])|((with_reducible refine Qab (a0) ?_ ?_ ?_);(with_reducible rfl);rfl)|((with_reducible refine Qab (a1) ?_ ?_ ?_);(with_reducible rfl);rfl)|((with_reducible refine Qab (a2) ?_ ?_ ?_);(with_reducible rfl);rfl)|((with_reducible refine Qab (hpath) ?_ ?_ ?_);(with_reducible rfl);rfl)|((with_reducible refine Qab (ke) ?_ ?_ ?_);(with_reducible rfl);rfl)|((with_reducible refine Qab (c1) ?_ ?_ ?_);(with_reducible rfl);rfl)|((with_reducible refine Qab (c2) ?_ ?_ ?_);(with_reducible rfl);rfl)|((with_reducible refine Qab (r1) ?_ ?_ ?_);(with_reducible rfl);rfl)|(with_reducible exact Qaa _ _ (by kernel_rfl))|(with_reducible refine And.intro (Qaa _ _ (by kernel_rfl)) ?_))
 repeat (first|(simp -implicitDefEqProofs only [go_sem,Nat.reduceAdd,Nat.reduceMul,Nat.reduceEqDiff,Nat.reduceLT,Nat.reduceLeDiff,reduceCtorEq,Int.reduceNeg,g0,Qf5,Qi7,Qnr,Zbv,bne_self_eq_false,Bool.not_true,Bool.not_false,beq_self_eq_true])|((with_reducible refine Qab (kr) ?_ ?_ ?_);(with_reducible rfl);rfl)|((with_reducible refine Qab (ko) ?_ ?_ ?_);(with_reducible rfl);rfl)|(with_reducible exact Qaa _ _ (by kernel_rfl))|(with_reducible refine And.intro (Qaa _ _ (by kernel_rfl)) ?_))
 repeat (first|(simp -implicitDefEqProofs only [go_sem,Nat.reduceAdd,Nat.reduceMul,Nat.reduceEqDiff,Nat.reduceLT,Nat.reduceLeDiff,reduceCtorEq,Int.reduceNeg,g0,Qf5,Qi7,Bool.not_true,Bool.not_false])|((with_reducible refine Qab (o1) ?_ ?_ ?_);(with_reducible rfl);rfl)|((with_reducible refine Qab (o2) ?_ ?_ ?_);(with_reducible rfl);rfl)|((with_reducible refine Qab (o3) ?_ ?_ ?_);(with_reducible rfl);rfl)|(with_reducible exact Qaa _ _ (by kernel_rfl))|(with_reducible refine And.intro (Qaa _ _ (by kernel_rfl)) ?_))
 repeat (first|(simp -implicitDefEqProofs only [go_sem,Nat.reduceAdd,Nat.reduceMul,Nat.reduceEqDiff,Nat.reduceLT,Nat.reduceLeDiff,reduceCtorEq,Int.reduceNeg,g0,Qf5,Qi7,Bool.not_true,Bool.not_false])|((with_reducible refine Qab (p1) ?_ ?_ ?_);(with_reducible rfl);rfl)|((with_reducible refine Qab (p2) ?_ ?_ ?_);(with_reducible rfl);rfl)|(with_reducible exact Qaa _ _ (by kernel_rfl))|(with_reducible refine And.intro (Qaa _ _ (by kernel_rfl)) ?_))
 repeat (first|(simp -implicitDefEqProofs only [go_sem,Nat.reduceAdd,Nat.reduceMul,Nat.reduceEqDiff,Nat.reduceLT,Nat.reduceLeDiff,reduceCtorEq,Nat.reduceBneDiff,Int.reduceLE,Int.reduceLT,Int.reduceToNat,Int.reduceNeg,g0,Qf5,Qi7,Bool.not_true,Bool.not_false,List.length_cons,List.length_nil,List.take_succ_cons,List.take_zero,List.drop_succ_cons,List.drop_zero,bl1,bl2,bne_self_eq_false])|((with_reducible refine Qab (f1) ?_ ?_ ?_);(with_reducible rfl);rfl)|((with_reducible refine Qab (s1) ?_ ?_ ?_);(with_reducible rfl);rfl)|((with_reducible refine Qab (s2) ?_ ?_ ?_);(with_reducible rfl);rfl)|((with_reducible refine Qbs (hpathB) ?_ ?_ ?_ ?_);(with_reducible rfl);rfl;rfl)|(with_reducible exact Qaa _ _ (by kernel_rfl))|(with_reducible refine And.intro (Qaa _ _ (by kernel_rfl)) ?_))
 repeat (first|(simp -implicitDefEqProofs only [go_sem,Nat.reduceAdd,Nat.reduceEqDiff,Nat.reduceLT,reduceCtorEq,Int.reduceLT,Int.reduceNeg,g0,List.length_cons,List.length_nil,List.set_cons_zero,List.set_cons_succ,Bool.not_true,Bool.not_false])|((with_reducible refine Qab (v1) ?_ ?_ ?_);(with_reducible rfl);rfl)|((with_reducible refine Qab (v2) ?_ ?_ ?_);(with_reducible rfl);rfl)|((with_reducible refine Qab (v3) ?_ ?_ ?_);(with_reducible rfl);rfl)|(with_reducible exact Qaa _ _ (by kernel_rfl))|(with_reducible refine And.intro (Qaa _ _ (by kernel_rfl)) ?_))
 trace_state
end Go.Proofs.YtlpiamlgibomhaaGreat

namespace Go.Proofs.YtlpiamlgibomhaaGreat
open Go.Vl Go.RowKit
theorem own:ownKnob Tryz.prog.godebug=none:=by kernel_rfl
theorem Zoo:laidOutB Tryz.prog=true:=by kernel_rfl
theorem Zg5 {k:IntKind} {c:List PV} (h:Qcn (.int k) c): ∃n:Int,TT.mk (.int k) c= .int k n∧(Lit.int k n).wf=true:=by
 simp only [Qcn]at h
 obtain⟨x,rfl,hx⟩:=h
 exact⟨x,rfl,hx⟩
theorem Qpv {n:Int} (h:(Lit.int .i64 n).wf=true): -9223372036854775808≤n∧n≤9223372036854775807:=by
 have:=h
 simp [Lit.wf,IntKind.min,IntKind.max,IntKind.signed,IntKind.bits]at this
 omega
theorem Qma {c:List PV} (h:Qcn (.int .i64) c): ∃n:Int,TT.mk (.int .i64) c= .int .i64 n∧ -9223372036854775808≤n∧n≤9223372036854775807:=by
 obtain⟨n,e,w⟩:=Zg5 h
 exact⟨n,e,Qpv w⟩
end Go.Proofs.YtlpiamlgibomhaaGreat

namespace Go.Proofs.YtlpiamlgibomhaaGreat
open Go.Vl Go.RowKit Go.Dg
def Q07 (s:Sg):Prop:=i64 s.f∧i64 s.t∧i64 s.o∧ ∀c∈s.ax,(∀x∈c,i64 x)∧c.length≤maxLen
theorem Zi9 {s:Sg} (h:Q07 s) (hl: ∀c∈s.ax,c.length≤1000):okSg s:=⟨h.1,h.2.1,h.2.2.1,fun c hc=>(h.2.2.2 c hc).1,hl⟩
def segT:TT:= .agg [.int .i64,.int .i64,.int .i64,.slc (.int .i64),.slc (.int .i64),.slc (.int .i64)]
theorem Q8v {n:Int} (h:(Lit.int .i64 n).wf=true):i64 n:=Qpv h
theorem Qji: ∀ess:List (List PV),(∀c∈ess,Qcn (.int .i64) c)→ ∃l:List Int,ess.map (TT.mk (.int .i64))=l.map (PV.int .i64)∧l.length=ess.length∧ ∀x∈l,i64 x
 | [],_=>⟨[],rfl,rfl,fun _ h=>nomatch h⟩
 |c::cs,h=>by
  obtain⟨n,e,b⟩:=Qma (h c (by simp))
  obtain⟨l,hl,hn,hx⟩:=Qji cs (fun c hc=>h c (by simp [hc]))
  refine⟨n::l,by simp [e,hl],by simp [hn],fun x hx'=> ?_⟩
  cases hx' with
  |head=>exact b
  |tail _ h=>exact hx x h
theorem Zg6 {c:List PV} (h:Qcn segT c): ∃s:Sg,segT.mk c=sgPV s∧Q07 s:=by
 simp only [segT,Qcn,Qhc]at h
 obtain⟨_,_,rfl,⟨f,rfl,hf⟩,_,_,rfl,⟨t,rfl,ht⟩,_,_,rfl,⟨o,rfl,ho⟩,_,_,rfl,⟨ex,rfl,mx,hx⟩,_,_,rfl,⟨ey,rfl,my,hy⟩,_,_,rfl,⟨ez,rfl,mz,hz⟩,rfl⟩:=h
 obtain⟨lx,e1,n1,b1⟩:=Qji ex (fun c hc=>by have:=hx c hc;simpa only [Qcn]using this)
 obtain⟨ly,e2,n2,b2⟩:=Qji ey (fun c hc=>by have:=hy c hc;simpa only [Qcn]using this)
 obtain⟨lz,e3,n3,b3⟩:=Qji ez (fun c hc=>by have:=hz c hc;simpa only [Qcn]using this)
 refine⟨⟨f,t,o,lx,ly,lz⟩,?_,Q8v hf,Q8v ht,Q8v ho,?_⟩
 ·show PV.agg [.int .i64 f,.int .i64 t,.int .i64 o,.slc (ex.map (TT.mk (.int .i64))),.slc (ey.map (TT.mk (.int .i64))),.slc (ez.map (TT.mk (.int .i64)))]=_
  rw [e1,e2,e3];rfl
 ·intro c hc
  simp only [Sg.ax,List.mem_cons,List.not_mem_nil,or_false]at hc
  rcases hc with rfl|rfl|rfl
  ·exact⟨b1,by omega⟩
  ·exact⟨b2,by omega⟩
  ·exact⟨b3,by omega⟩
theorem Qs7 {c:List PV} (h:Qcn (.slc segT) c): ∃p:List Sg,TT.mk (.slc segT) c= .slc (p.map sgPV)∧((∀s∈p,Q07 s)∧p.length≤maxLen):=by
 simp only [Qcn]at h
 obtain⟨ess,rfl,hm,h⟩:=h
 have key: ∀ess:List (List PV),(∀c∈ess,Qcn segT c)→ ∃l:List Sg,ess.map segT.mk=l.map sgPV∧l.length=ess.length∧ ∀s∈l,Q07 s:=by
  intro ess
  induction ess with
  |nil=>exact fun _=>⟨[],rfl,rfl,fun _ h=>nomatch h⟩
  |cons c cs ih=>
   intro h
   obtain⟨s,e,b⟩:=Zg6 (h c (by simp))
   obtain⟨l,hl,hn,hx⟩:=ih (fun c hc=>h c (by simp [hc]))
   refine⟨s::l,by simp [e,hl],by simp [hn],fun x hx'=> ?_⟩
   cases hx' with
   |head=>exact b
   |tail _ h=>exact hx x h
 obtain⟨l,e,hn,hx⟩:=key ess h
 exact⟨l,by simp only [TT.mk,List.headD_cons];rw [e],hx,by omega⟩
end Go.Proofs.YtlpiamlgibomhaaGreat

namespace Go.Proofs.YtlpiamlgibomhaaGreat
open Go.Vl Go.RowKit Go.Dg
end Go.Proofs.YtlpiamlgibomhaaGreat

namespace Go.Proofs.YtlpiamlgibomhaaGreat
open Go.Vl Go.RowKit Go.Dg
end Go.Proofs.YtlpiamlgibomhaaGreat

namespace Go.Proofs.YtlpiamlgibomhaaGreat
open Go.Vl Go.RowKit Go.Dg
end Go.Proofs.YtlpiamlgibomhaaGreat

namespace Go.Dg
theorem Qzm (c:List Int) (m a d:Int) (k:Nat) (h:k≤5):plcT c (m*a) (m*d) k=m^5*plcT c a d k:=by
 unfold plcT
 have e:m^5=m^k*m^(5-k):=by rw [←Int.pow_add];congr 1;omega
 rw [Int.mul_pow,Int.mul_pow,e]
 simp only [Int.mul_comm,Int.mul_left_comm,Int.mul_assoc]
theorem Qsk (c:List Int) (m a d:Int) (h:c.length≤6):plc c (m*a) (m*d)=m^5*plc c a d:=by
 unfold plc
 have key: ∀n,n≤6→sm (plcT c (m*a) (m*d)) n=m^5*sm (plcT c a d) n:=by
  intro n
  induction n with
  |zero=>intro _;simp [sm]
  |succ n ih=>intro hn;simp only [sm];rw [ih (by omega),Qzm c m a d n (by omega),Int.mul_add]
 exact key _ h
theorem Qsl (s:Sg) (m:Nat) (a d:Int) (h: ∀c∈s.ax,c.length≤6): ∀i,i≤3→plG s (m*a) (m*d) i=m^5*plG s a d i:=by
 intro i hi
 induction i with
 |zero=>
  show(s.o*((m:Int)*d)^5).natAbs=m^5*(s.o*d^5).natAbs
  rw [Int.mul_pow,Int.mul_left_comm,Int.natAbs_mul,Int.natAbs_pow,Int.natAbs_natCast]
 |succ i ih=>
  rw [Qde,Qde,ih (by omega)]
  have e:plP s (m*a) (m*d) i=(m:Int)^5*plP s a d i:=Qsk _ _ _ _ (h _ (Qgu s i (by omega)))
  rw [e,Int.natAbs_mul,Int.natAbs_pow,Int.natAbs_natCast,Nat.gcd_mul_left]
theorem Q3b (s:Sg) (m:Nat) (a d:Int) (hm:0<m) (h: ∀c∈s.ax,c.length≤6) (i:Nat) (hi:i<3):plQ s (m*a) (m*d) i=plQ s a d i:=by
 have e:plP s (m*a) (m*d) i=(m:Int)^5*plP s a d i:=Qsk _ _ _ _ (h _ (Qgu s i hi))
 unfold plQ
 rw [e,Qsl s m a d h 3 (by decide),Int.natCast_mul,Int.natCast_pow]
 exact Int.mul_ediv_mul_of_pos _ _ (Int.pow_pos (by omega))
theorem Q3c (s:Sg) (m:Nat) (a d:Int) (hm:0<m) (h: ∀c∈s.ax,c.length≤6):plO s (m*a) (m*d)=plO s a d:=by
 unfold plO
 rw [Qsl s m a d h 3 (by decide),Int.natCast_mul,Int.natCast_pow,Int.mul_pow,Int.mul_left_comm]
 exact Int.mul_ediv_mul_of_pos _ _ (Int.pow_pos (by omega))
end Go.Dg

namespace Go.Proofs.YtlpiamlgibomhaaGreat
open Go.Vl Go.RowKit Go.Dg
end Go.Proofs.YtlpiamlgibomhaaGreat

namespace Go.Proofs.YtlpiamlgibomhaaGreat
open Go.Vl Go.RowKit Go.Dg
def hov (o:Int) (n:Nat):List Sg:=(List.range n).map fun(i:Nat)=>(⟨o+(i:Int),o+(i:Int)+1,1,[1],[2],[3]⟩:Sg)
end Go.Proofs.YtlpiamlgibomhaaGreat

namespace Go.Proofs.YtlpiamlgibomhaaGreat
open Go.Vl Go.RowKit Go.Dg
def hv (f:Int):Sg:=⟨f,f+1,1,[1],[2],[3]⟩
end Go.Proofs.YtlpiamlgibomhaaGreat

namespace Go.Proofs.YtlpiamlgibomhaaGreat
open Go.Vl Go.RowKit Go.Dg
end Go.Proofs.YtlpiamlgibomhaaGreat

namespace Go.Dg
def sw (L:List Int) (j:Nat):List Int:=(L.set j (L.getD (j-1) 0)).set (j-1) (L.getD j 0)
def bub (L:List Int):Nat→List Int
 |0=>L
 |j+1=>if L.getD (j+1) 0<L.getD j 0 then bub (sw L (j+1)) j else L
def isr (L:List Int):Nat→List Int
 |0=>L
 |k+1=>bub (isr L k) (k+1)
def Qii (L:List Int):List Int:=isr L (L.length-1)
theorem Zie (L:List Int) (j:Nat):(sw L j).length=L.length:=by simp [sw]
theorem Q3d: ∀(j:Nat) (L:List Int),(bub L j).length=L.length
 |0,_=>rfl
 |j+1,L=>by
  unfold bub
  split
  ·rw [Q3d j,Zie]
  ·rfl
theorem Quz (L:List Int): ∀k,(isr L k).length=L.length
 |0=>rfl
 |k+1=>by rw [isr,Q3d,Quz L k]
theorem Qm9 (L:List Int):(Qii L).length=L.length:=Quz _ _
theorem gD {L:List Int} {i:Nat} (h:i<L.length):L.getD i 0=L[i]:=by rw [List.getD_eq_getElem?_getD,List.getElem?_eq_getElem h];rfl
theorem Zbg (A B:List Int) (a b:Int) (j:Nat) (hj:A.length=j):sw (A++a::b::B) (j+1)=A++b::a::B:=by
 unfold sw
 subst hj
 simp
theorem Qpi: ∀(j:Nat) (A B:List Int) (x:Int),A.length=j→(A.Pairwise (· ≤ ·))→ ∃A1 A2,A=A1++A2∧bub (A++x::B) j=A1++x::A2++B∧(∀y∈A1,y≤x)∧ ∀y∈A2,x<y
 |0,A,B,x,h,_=>⟨[],[],by simpa using List.length_eq_zero_iff.1 h,by have:=List.length_eq_zero_iff.1 h;subst this;simp [bub],by simp,by simp⟩
 |j+1,A,B,x,h,hs=>by
  obtain⟨A',a,rfl⟩: ∃A' a,A=A'++[a]:=⟨A.dropLast,A.getLast (by intro e;subst e;simp at h),(List.dropLast_concat_getLast _).symm⟩
  have hl:A'.length=j:=by simpa using h
  have e1:(A'++[a]++x::B).getD (j+1) 0=x:=by simp [List.getD_eq_getElem?_getD,←hl,List.getElem?_append_right]
  have e2:(A'++[a]++x::B).getD j 0=a:=by simp [List.getD_eq_getElem?_getD,←hl]
  have hs':=List.pairwise_append.1 hs
  unfold bub
  rw [e1,e2]
  split
  ·rename_i hlt
   have e3:sw (A'++[a]++x::B) (j+1)=A'++x::a::B:=by
    have:=Zbg A' B a x j hl
    simpa using this
   rw [e3]
   obtain⟨A1,A2,f1,f2,f3,f4⟩:=Qpi j A' (a::B) x hl hs'.1
   refine⟨A1,A2++[a],by rw [f1];simp,by rw [f2];simp,f3,fun y hy=> ?_⟩
   rcases List.mem_append.1 hy with hy|hy
   ·exact f4 y hy
   ·simp at hy;omega
  ·rename_i hge
   refine⟨A'++[a],[],by simp,by simp,fun y hy=> ?_,by simp⟩
   rcases List.mem_append.1 hy with hy|hy
   ·have:=hs'.2.2 y hy a (by simp);omega
   ·simp at hy;omega
theorem Qxl (L:List Int): ∀k,k+1≤L.length→ ∃S,isr L k=S++L.drop (k+1)∧S.length=k+1∧S.Pairwise (· ≤ ·)∧ ∀y,y∈S↔y∈L.take (k+1)
 |0,h=>by
  cases L with
  |nil=>simp at h
  |cons a L=>exact⟨[a],rfl,rfl,by simp,by simp⟩
 |k+1,h=>by
  obtain⟨S,h1,h2,h3,h4⟩:=Qxl L k (by omega)
  have hd:L.drop (k+1)=L[k+1]::L.drop (k+1+1):=List.drop_eq_getElem_cons (by omega)
  rw [hd]at h1
  obtain⟨A1,A2,f1,f2,f3,f4⟩:=Qpi (k+1) S (L.drop (k+1+1)) L[k+1] h2 h3
  refine⟨A1++L[k+1]::A2,by rw [isr,h1,f2],by have:=h2;rw [f1]at this;simp at this ⊢;omega,?_,fun y=> ?_⟩
  ·subst f1
   obtain⟨p1,p2,p3⟩:=List.pairwise_append.1 h3
   refine List.pairwise_append.2 ⟨p1,List.pairwise_cons.2 ⟨fun y hy=>Int.le_of_lt (f4 y hy),p2⟩,fun y hy z hz=> ?_⟩
   rcases List.mem_cons.1 hz with rfl|hz
   ·exact f3 y hy
   ·exact p3 y hy z hz
  ·rw [List.take_add_one,List.getElem?_eq_getElem (show k+1<L.length by omega)]
   have:=h4 y
   rw [f1]at this
   simp only [List.mem_append,List.mem_cons,Option.toList_some,List.mem_singleton]at this ⊢
   rw [←this]
   constructor
   ·rintro(a|a|a)
    ·exact .inl (.inl a)
    ·exact .inr (.inl a)
    ·exact .inl (.inr a)
   ·rintro((a|a)|a)
    ·exact .inl a
    ·exact .inr (.inr a)
    ·exact .inr (.inl (a.elim id (fun h=>nomatch h)))
theorem Qpj (L:List Int):(Qii L).Pairwise (· ≤ ·)∧ ∀y,y∈Qii L↔y∈L:=by
 cases L with
 |nil=>exact⟨by simp [Qii,isr],fun _=>Iff.rfl⟩
 |cons a L=>
  obtain⟨S,h1,h2,h3,h4⟩:=Qxl (a::L) L.length (Nat.le_refl _)
  have e:Qii (a::L)=S:=by
   unfold Qii
   have:(a::L).length-1=L.length:=by simp
   rw [this,h1]
   simp
  rw [e]
  refine⟨h3,fun y=> ?_⟩
  rw [h4 y,List.take_of_length_le (by simp)]
def dd:List Int→List Int
 | []=>[]
 | [a]=>[a]
 |a::b::L=>if a=b then dd (b::L)else a::dd (b::L)
theorem Q3e: ∀(L:List Int) (y:Int),y∈dd L↔y∈L
 | [],_=>Iff.rfl
 | [_],_=>Iff.rfl
 |a::b::L,y=>by
  have ih:=Q3e (b::L) y
  unfold dd
  split
  ·rename_i e;subst e;rw [ih];simp
  ·simp only [List.mem_cons]at ih ⊢;rw [ih]
theorem Qsm: ∀(L:List Int),L.Pairwise (· ≤ ·)→(dd L).Pairwise (· < ·)
 | [],_=>List.Pairwise.nil
 | [_],_=>by simp [dd]
 |a::b::L,h=>by
  obtain⟨h1,h2⟩:=List.pairwise_cons.1 h
  have ih:=Qsm (b::L) h2
  unfold dd
  split
  ·exact ih
  ·rename_i e
   refine List.pairwise_cons.2 ⟨fun y hy=> ?_,ih⟩
   have hy:=(Q3e _ _).1 hy
   have hab:=h1 b (by simp)
   rcases List.mem_cons.1 hy with rfl|hy
   ·omega
   ·have:=(List.pairwise_cons.1 h2).1 y hy;omega
theorem Q3f: ∀(l:List Int) (a x:Int),dd (l++[a]++[x])=if a=x then dd (l++[a])else dd (l++[a])++[x]
 | [],a,x=>by by_cases h:a=x<;>simp [dd,h]
 | [b],a,x=>by
  simp only [List.cons_append,List.nil_append,dd]
  split<;>split<;>simp_all
 |b::c::l,a,x=>by
  have ih:=Q3f (c::l) a x
  simp only [List.cons_append,dd]at ih ⊢
  rw [ih]
  split<;>split<;>simp
theorem Qna (xs:List Int) (j:Nat) (h1:1≤j) (h:j<xs.length):dd (xs.take (j+1))=if xs.getD (j-1) 0=xs.getD j 0 then dd (xs.take j)else dd (xs.take j)++[xs.getD j 0]:=by
 obtain⟨i,rfl⟩: ∃i,j=i+1:=⟨j-1,by omega⟩
 have e1:xs.take (i+1)=xs.take i++[xs[i]]:=by rw [List.take_add_one,List.getElem?_eq_getElem (show i<xs.length by omega)];rfl
 have e2:xs.take (i+1+1)=xs.take i++[xs[i]]++[xs[i+1]]:=by rw [List.take_add_one,List.getElem?_eq_getElem h,e1];rfl
 rw [e2,e1,Q3f,gD h,Nat.add_sub_cancel,gD (show i<xs.length by omega)]
theorem Q3g: ∀(l:List Int),(dd l).length≤l.length
 | []=>Nat.le_refl _
 | [_]=>Nat.le_refl _
 |a::b::l=>by
  have ih:=Q3g (b::l)
  unfold dd
  split<;>simp at ih ⊢ <;>omega
def ddE (xs:List Int) (j:Nat):List Int:=dd (xs.take j)++xs.drop (dd (xs.take j)).length
theorem Qnb (xs:List Int) (j:Nat):(ddE xs j).length=xs.length:=by
 have h1:=Q3g (xs.take j)
 have h2:(xs.take j).length≤xs.length:=by simp;omega
 simp only [ddE,List.length_append,List.length_drop];omega
theorem Q3h (xs:List Int) (j i:Nat) (h:(dd (xs.take j)).length≤i):(ddE xs j).getD i 0=xs.getD i 0:=by
 simp only [ddE,List.getD_eq_getElem?_getD]
 rw [List.getElem?_append_right h,List.getElem?_drop]
 congr 2;omega
theorem Zj8 (xs:List Int) (j:Nat) (h1:1≤j) (h:j<xs.length) (hl:(dd (xs.take j)).length<j) (hne:xs.getD (j-1) 0≠xs.getD j 0):(ddE xs j).set (dd (xs.take j)).length (xs.getD j 0)=ddE xs (j+1):=by
 have e:=Qna xs j h1 h
 rw [if_neg hne]at e
 simp only [ddE,e,List.length_append,List.length_singleton]
 have hd:xs.drop (dd (xs.take j)).length=xs[(dd (xs.take j)).length]'(by omega)::xs.drop ((dd (xs.take j)).length+1):=List.drop_eq_getElem_cons (by omega)
 rw [List.set_append_right _ _ (Nat.le_refl _),Nat.sub_self,hd,List.set_cons_zero,List.append_assoc]
 rfl
theorem Zbh (xs:List Int) (j:Nat) (h1:1≤j) (h:j<xs.length) (he:xs.getD (j-1) 0=xs.getD j 0):ddE xs (j+1)=ddE xs j∧(dd (xs.take (j+1))).length=(dd (xs.take j)).length:=by
 have e:=Qna xs j h1 h
 rw [if_pos he]at e
 simp only [ddE,e,and_self]
theorem Q3i (xs:List Int) (k:Nat) (h1:1≤k) (h:k<xs.length) (hd:dd (xs.take k)=xs.take k) (he:xs.getD (k-1) 0=xs.getD k 0):ddE xs (k+1)=xs∧(dd (xs.take (k+1))).length=k:=by
 have e:=Qna xs k h1 h
 rw [if_pos he,hd]at e
 have hl:(xs.take k).length=k:=by simp;omega
 exact⟨by simp only [ddE,e,hl,List.take_append_drop],by rw [e,hl]⟩
end Go.Dg

namespace Go.Proofs.YtlpiamlgibomhaaGreat
open Go.Vl Go.RowKit Go.Dg
abbrev iB (xs:List Int):Box:={els:=xs.map (PV.int .i64),esz:=1,ety:=3,fro:=0,live:=true,arr:=true}
theorem Ztu (x:Int):Qaf Tryz.prog 171 [.int .i64 x] (.bool false):=by
 refine Qac (tb:=[]) 6 [.tmp 2] [0,2] mixed Tryz.func171 rfl (by kernel_rfl) (by kernel_rfl) (by kernel_rfl) (by kernel_rfl) ?_
 repeat (first|(simp -implicitDefEqProofs only [go_sem,Nat.reduceAdd,Nat.reduceMul,Nat.reduceEqDiff,Nat.reduceLT,Nat.reduceLeDiff,reduceCtorEq,bne_self_eq_false]))
theorem Zqw (x y:Int):Qaf Tryz.prog 153 [.int .i64 x,.int .i64 y] (.bool (decide (x<y))):=by
 have h1:=Ztu x
 refine Qac (tb:=[]) 17 [.tmp 4] [0,1,4] mixed Tryz.func153 rfl (by kernel_rfl) (by kernel_rfl) (by kernel_rfl) (by kernel_rfl) ?_
 repeat (first|(simp -implicitDefEqProofs only [go_sem,Nat.reduceAdd,Nat.reduceMul,Nat.reduceEqDiff,Nat.reduceLT,Nat.reduceLeDiff,reduceCtorEq])|((with_reducible refine Qab (h1) ?_ ?_ ?_);(with_reducible rfl);rfl))
theorem iget (xs:List Int) (i:Nat) (h:i<xs.length):(xs.map (PV.int .i64))[i]? =some (.int .i64 (xs.getD i 0)):=by simp [h]
theorem iset (xs:List Int) (i:Nat) (x:Int):(xs.map (PV.int .i64)).set i (.int .i64 x)=(xs.set i x).map (PV.int .i64):=by rw [List.map_set]
set_option maxHeartbeats 1000000 in
theorem Ztv (xs:List Int) (hl:xs.length≤12):Qcx Tryz.prog 147 [.bs 1000000 1 0 xs.length,.int .i64 0,.int .i64 (xs.length:Int)] [(1000000,iB xs)] (.tup []) [(1000000,iB (Qii xs))]:=by
 refine Qb2 (tb:=[]) 49 [] [0,1,2,6,7,12,30] mixed Tryz.func147 rfl (by kernel_rfl) (by kernel_rfl) (by kernel_rfl) (by kernel_rfl) (by rfl) ?_
 repeat (first|(simp -implicitDefEqProofs only [go_sem,Nat.reduceAdd,Nat.reduceMul,Nat.reduceEqDiff,Nat.reduceLT,Nat.reduceLeDiff,reduceCtorEq,Int.reduceAdd,Qah (a:=0) (by decide)])|(with_reducible exact Qaa _ _ (by kernel_rfl))|(with_reducible refine And.intro (Qaa _ _ (by kernel_rfl)) ?_))
 refine Qas mixed (fun k:{k:Nat // k≤xs.length-1}=>St.of [(0,.bs 1000000 1 0 xs.length),(1,.int .i64 0),(2,.int .i64 (xs.length:Int)),(6,.int .i64 ((k.1+1:Nat):Int))] [(1000000,iB (isr xs k.1))]) (fun k=>xs.length-k.1) ⟨0,Nat.zero_le _⟩ ?_ ?_
 ·refine Qak (θ:=[(1000000,1000000)]) rfl ?_ ?_
  ·simp [Qad,lkp,ren1,ren0,Qam]
  ·exact⟨⟨rfl,rfl,rfl,rfl,rfl,.inl ⟨rfl,rfl⟩⟩,trivial⟩
 ·rintro⟨k,hk⟩
  by_cases hA:k+1<xs.length
  ·have hA':(((k+1:Nat):Int)<(xs.length:Int))=True:=eq_true (by omega)
   repeat (first|(simp -implicitDefEqProofs only [go_sem,Nat.reduceAdd,Nat.reduceMul,Nat.reduceEqDiff,Nat.reduceLT,Nat.reduceLeDiff,reduceCtorEq,hA'])|(with_reducible exact Qaa _ _ (by kernel_rfl))|(with_reducible refine And.intro (Qaa _ _ (by kernel_rfl)) ?_))
   refine Qas mixed (fun z:{z:List Int×Nat // bub z.1 z.2=isr xs (k+1)∧z.1.length=xs.length∧z.2<xs.length}=>St.of [(0,.bs 1000000 1 0 xs.length),(1,.int .i64 0),(2,.int .i64 (xs.length:Int)),(6,.int .i64 ((k+1:Nat):Int)),(7,.int .i64 (z.1.2:Int))] [(1000000,iB z.1.1)]) (fun z=>z.1.2) ⟨(isr xs k,k+1),rfl,Quz _ _,hA⟩ ?_ ?_
   ·refine Qak (θ:=[(1000000,1000000)]) rfl ?_ ?_
    ·simp [Qad,lkp,ren1,ren0,Qam]
    ·exact⟨⟨rfl,rfl,rfl,rfl,rfl,.inl ⟨rfl,rfl⟩⟩,trivial⟩
   ·rintro⟨⟨L,j⟩,hb,hL,hj⟩
    simp only at hb hL hj ⊢
    have hw:=Qah (a:=k+1) (by omega)
    cases j with
    |zero=>
     have t0:((0:Int)<((0:Nat):Int))=False:=eq_false (by omega)
     have hLe:L=isr xs (k+1):=hb
     subst hLe
     repeat (first|(simp -implicitDefEqProofs only [go_sem,Nat.reduceAdd,Nat.reduceMul,Nat.reduceEqDiff,Nat.reduceLT,Nat.reduceLeDiff,reduceCtorEq,Int.reduceLT,t0,decide_false,hw])|(with_reducible exact Qaa _ _ (by kernel_rfl))|(with_reducible refine And.intro (Qaa _ _ (by kernel_rfl)) ?_))
     refine⟨⟨k+1,by omega⟩,by simp only;omega,Qak (θ:=[(1000000,1000000)]) rfl ?_ ?_⟩
     ·simp [Qad,lkp,ren1,ren0,Qam]
     ·exact⟨⟨rfl,rfl,rfl,rfl,rfl,.inl ⟨rfl,rfl⟩⟩,trivial⟩
    |succ j=>
     have t0:((0:Int)<((j+1:Nat):Int))=True:=eq_true (by omega)
     have n1:=nnT (j+1)
     have n0:=nnT j
     have ws:=Qd4 (n:=j) (by omega)
     have l1:(((j+1:Nat):Int)<(xs.length:Int))=True:=eq_true (by omega)
     have l0:((j:Int)<(xs.length:Int))=True:=eq_true (by omega)
     have g1:=iget L (j+1) (by omega)
     have g0:=iget L j (by omega)
     have lss:=Zqw (L.getD (j+1) 0) (L.getD j 0)
     unfold bub at hb
     by_cases hlt:L.getD (j+1) 0<L.getD j 0
     ·rw [if_pos hlt]at hb
      rw [decide_eq_true hlt]at lss
      have q1:=iset L (j+1) (L.getD j 0)
      have q2:=iset (L.set (j+1) (L.getD j 0)) j (L.getD (j+1) 0)
      have q3:(L.set (j+1) (L.getD j 0)).set j (L.getD (j+1) 0)=sw L (j+1):=rfl
      rw [q3]at q2
      have g3:((L.set (j+1) (L.getD j 0)).map (PV.int .i64))[j]? =some (.int .i64 (L.getD j 0)):=by
       rw [iget _ j (by rw [List.length_set];omega)]
       simp [List.getD_eq_getElem?_getD]
      repeat (first|(simp -implicitDefEqProofs only [go_sem,Nat.reduceAdd,Nat.reduceMul,Nat.reduceEqDiff,Nat.reduceLT,Nat.reduceLeDiff,reduceIte,reduceCtorEq,t0,n0,n1,ws,l0,l1,g0,g1,q1,q2,g3,Int.toNat_natCast])|((with_reducible refine Qab (lss) ?_ ?_ ?_);(with_reducible rfl);rfl)|(with_reducible exact Qaa _ _ (by kernel_rfl))|(with_reducible refine And.intro (Qaa _ _ (by kernel_rfl)) ?_))
      refine⟨⟨(sw L (j+1),j),hb,by rw [Zie];exact hL,by omega⟩,by simp,Qak (θ:=[(1000000,1000000)]) rfl ?_ ?_⟩
      ·simp [Qad,lkp,ren1,ren0,Qam]
      ·exact⟨⟨rfl,rfl,rfl,rfl,rfl,.inl ⟨rfl,rfl⟩⟩,trivial⟩
     ·rw [if_neg hlt]at hb
      rw [decide_eq_false hlt]at lss
      subst hb
      repeat (first|(simp -implicitDefEqProofs only [go_sem,Nat.reduceAdd,Nat.reduceMul,Nat.reduceEqDiff,Nat.reduceLT,Nat.reduceLeDiff,reduceCtorEq,t0,n0,n1,ws,l0,l1,g0,g1,hw,Int.toNat_natCast])|((with_reducible refine Qab (lss) ?_ ?_ ?_);(with_reducible rfl);rfl)|(with_reducible exact Qaa _ _ (by kernel_rfl))|(with_reducible refine And.intro (Qaa _ _ (by kernel_rfl)) ?_))
      refine⟨⟨k+1,by omega⟩,by simp only;omega,Qak (θ:=[(1000000,1000000)]) rfl ?_ ?_⟩
      ·simp [Qad,lkp,ren1,ren0,Qam]
      ·exact⟨⟨rfl,rfl,rfl,rfl,rfl,.inl ⟨rfl,rfl⟩⟩,trivial⟩
  ·have hA':(((k+1:Nat):Int)<(xs.length:Int))=False:=eq_false (by omega)
   have hke:k=xs.length-1:=by omega
   repeat (first|(simp -implicitDefEqProofs only [go_sem,Nat.reduceAdd,Nat.reduceMul,Nat.reduceEqDiff,Nat.reduceLT,Nat.reduceLeDiff,reduceCtorEq,hA'])|(with_reducible exact Qaa _ _ (by kernel_rfl))|(with_reducible refine And.intro (Qaa _ _ (by kernel_rfl)) ?_))
   refine Qbm (.inr rfl) ?_
   simp -implicitDefEqProofs only [go_sem]
   refine Qak (θ:=[(1000000,1000000)]) rfl ?_ ?_
   ·simp [Qad,lkp,ren1,ren0,Qam]
   ·subst hke
    exact⟨⟨rfl,rfl,rfl,rfl,rfl,.inl ⟨rfl,rfl⟩⟩,trivial⟩
end Go.Proofs.YtlpiamlgibomhaaGreat

namespace Go.Proofs.YtlpiamlgibomhaaGreat
open Go.Vl Go.RowKit Go.Dg
theorem Ztw (xs:List Int) (hl:xs.length≤12) (m:Int):Qcx Tryz.prog 122 [.bs 1000000 1 0 xs.length,.int .i64 0,.int .i64 (xs.length:Int),.int .i64 m] [(1000000,iB xs)] (.tup []) [(1000000,iB (Qii xs))]:=by
 have h:=Ztv xs hl
 have w0:IntKind.i64.wrap ((xs.length:Int)-0)=(xs.length:Int):=by rw [Int.sub_zero];exact wrapn (by omega)
 have h12:((xs.length:Int)≤12)=True:=eq_true (by omega)

 refine Qb2 (tb:=[(403,[(1000000,1000000)],[])]) 134 [] [0,1,2,3,8,9,10,11,12,13,14,15,16,17,18,23,29,35,50,68,72,87,113] mixed Tryz.func122 rfl (by kernel_rfl) (by kernel_rfl) (by kernel_rfl) (by kernel_rfl) (by rfl) ?_
 repeat (first|(simp -implicitDefEqProofs only [go_sem,Nat.reduceAdd,Nat.reduceMul,Nat.reduceEqDiff,Nat.reduceLT,Nat.reduceLeDiff,reduceCtorEq])|(with_reducible exact Qaa _ _ (by kernel_rfl))|(with_reducible refine And.intro (Qaa _ _ (by kernel_rfl)) ?_))
 refine Qas mixed (fun _:Unit=>St.of [(0,.bs 1000000 1 0 xs.length),(1,.int .i64 0),(2,.int .i64 (xs.length:Int)),(3,.int .i64 m),(8,.bool true),(9,.bool true)] [(1000000,iB xs)]) (fun _=>0) () ?_ ?_
 ·refine Qak (θ:=[(1000000,1000000)]) rfl ?_ ?_
  ·simp [Qad,lkp,ren1,ren0,Qam]
  ·exact⟨⟨rfl,rfl,rfl,rfl,rfl,.inl ⟨rfl,rfl⟩⟩,trivial⟩
 ·rintro⟨⟩
  repeat (first|(simp -implicitDefEqProofs only [go_sem,Nat.reduceAdd,Nat.reduceMul,Nat.reduceEqDiff,Nat.reduceLT,Nat.reduceLeDiff,reduceCtorEq,w0,h12])|((with_reducible refine Qbs (h) ?_ ?_ ?_ ?_);(with_reducible rfl);rfl;rfl)|(with_reducible exact Qaa _ _ (by kernel_rfl))|(with_reducible refine And.intro (Qaa _ _ (by kernel_rfl)) ?_))
  refine Qbm (.inl rfl) ?_
  simp -implicitDefEqProofs only [go_sem]
  refine Qak (θ:=[(1000000,1000000)]) rfl ?_ ?_
  ·simp [Qad,lkp,ren1,ren0,Qam]
  ·exact⟨⟨rfl,rfl,rfl,rfl,rfl,.inl ⟨rfl,rfl⟩⟩,trivial⟩
theorem Zqx (n:Nat) (hn:n<18446744073709551616):Qaf Tryz.prog 123 [.int .u64 (n:Int)] (.int .i64 (blen n:Int)):=by
 have h:=Q8t n hn
 refine Qac (tb:=[]) 8 [.tmp 2] [0,2] mixed Tryz.func123 rfl (by kernel_rfl) (by kernel_rfl) (by kernel_rfl) (by kernel_rfl) ?_
 repeat (first|(simp -implicitDefEqProofs only [go_sem,Nat.reduceAdd,Nat.reduceMul,Nat.reduceEqDiff,Nat.reduceLT,Nat.reduceLeDiff,reduceCtorEq])|((with_reducible refine Qab (h) ?_ ?_ ?_);(with_reducible rfl);rfl))
theorem Zqy (xs:List Int) (hl:xs.length≤12):Qcx Tryz.prog 83 [.bs 1000000 1 0 xs.length] [(1000000,iB xs)] (.tup []) [(1000000,iB (Qii xs))]:=by
 have h1:=Zqx xs.length (by omega)
 have h2:=Ztw xs hl (blen xs.length:Int)
 have w0:IntKind.u64.wrap (xs.length:Int)=(xs.length:Int):=Qje (by omega)

 refine Qb2 (tb:=[(105,[(1000000,1000000)],[])]) 11 [] [0,2] mixed Tryz.func83 rfl (by kernel_rfl) (by kernel_rfl) (by kernel_rfl) (by kernel_rfl) (by rfl) ?_
 repeat (first|(simp -implicitDefEqProofs only [go_sem,Nat.reduceAdd,Nat.reduceMul,Nat.reduceEqDiff,Nat.reduceLT,Nat.reduceLeDiff,reduceCtorEq,w0])|((with_reducible refine Qab (h1) ?_ ?_ ?_);(with_reducible rfl);rfl)|((with_reducible refine Qbs (h2) ?_ ?_ ?_ ?_);(with_reducible rfl);rfl;rfl))
 refine Qbm (.inr rfl) ?_
 simp -implicitDefEqProofs only [go_sem]
 refine Qak (θ:=[(1000000,1000000)]) rfl ?_ ?_
 ·simp [Qad,lkp,ren1,ren0,Qam]
 ·exact⟨⟨rfl,rfl,rfl,rfl,rfl,.inl ⟨rfl,rfl⟩⟩,trivial⟩
def ddB (xs:List Int):List Int:=dd xs++List.replicate (xs.length-(dd xs).length) 0
set_option maxHeartbeats 4000000 in
theorem Q4l (xs:List Int) (hl:xs.length≤1000000):Qcx Tryz.prog 84 [.bs 1000000 1 0 xs.length] [(1000000,iB xs)] (.bs 1000000 1 0 (dd xs).length) [(1000000,iB (ddB xs))]:=by
 by_cases h2:xs.length<2
 ·have h2':((xs.length:Int)<2)=True:=eq_true (by omega)
  have hd:dd xs=xs:=by
   match xs,h2 with
   | [],_=>rfl
   | [_],_=>rfl
  have hB:ddB xs=xs:=by unfold ddB;rw [hd,Nat.sub_self];simp
  rw [hd,hB]
  refine Qb2 (tb:=[]) 61 [.tmp 2] [0,2,3,4,5,8,13,25,32,44] mixed Tryz.func84 rfl (by kernel_rfl) (by kernel_rfl) (by kernel_rfl) (by kernel_rfl) (by rfl) ?_
  repeat (first|(simp -implicitDefEqProofs only [go_sem,Nat.reduceAdd,Nat.reduceMul,Nat.reduceEqDiff,Nat.reduceLT,Nat.reduceLeDiff,reduceCtorEq,h2'])|(with_reducible exact Qaa _ _ (by kernel_rfl))|(with_reducible refine And.intro (Qaa _ _ (by kernel_rfl)) ?_))
  refine Qbm (.inl rfl) ?_
  simp -implicitDefEqProofs only [go_sem,Nat.reduceEqDiff,reduceCtorEq]
  refine Qak (θ:=[(1000000,1000000)]) rfl ?_ ?_
  ·simp [Qad,lkp,ren1,ren0,Qam]
  ·exact⟨⟨rfl,rfl,rfl,rfl,rfl,.inl ⟨rfl,rfl⟩⟩,trivial⟩
 ·have h2':((xs.length:Int)<2)=False:=eq_false (by omega)
  refine Qb2 (tb:=[]) 61 [.tmp 2] [0,2,3,4,5,8,13,25,32,44] mixed Tryz.func84 rfl (by kernel_rfl) (by kernel_rfl) (by kernel_rfl) (by kernel_rfl) (by rfl) ?_
  repeat (first|(simp -implicitDefEqProofs only [go_sem,Nat.reduceAdd,Nat.reduceMul,Nat.reduceEqDiff,Nat.reduceLT,Nat.reduceLeDiff,reduceCtorEq,h2'])|(with_reducible exact Qaa _ _ (by kernel_rfl))|(with_reducible refine And.intro (Qaa _ _ (by kernel_rfl)) ?_))
  refine Qas mixed (fun k:{k:Nat // 1≤k∧k≤xs.length∧dd (xs.take k)=xs.take k}=>St.of [(0,.bs 1000000 1 0 xs.length),(3,.int .i64 (k.1:Int))] [(1000000,iB xs)]) (fun k=>xs.length-k.1) ⟨1,by omega,by omega,?_⟩ ?_ ?_
  ·match xs,h2 with
   |a::_,_=>rfl
  ·refine Qak (θ:=[(1000000,1000000)]) rfl ?_ ?_
   ·simp [Qad,lkp,ren1,ren0,Qam]
   ·exact⟨⟨rfl,rfl,rfl,rfl,rfl,.inl ⟨rfl,rfl⟩⟩,trivial⟩
  ·rintro⟨k,hk1,hk,hd⟩
   by_cases hA:k<xs.length
   ·have hA':=ltT hA
    obtain⟨i,rfl⟩: ∃i,k=i+1:=⟨k-1,by omega⟩
    have n1:=nnT (i+1)
    have n0:=nnT i
    have ws:=Qd4 (n:=i) (by omega)
    have l0:((i:Int)<(xs.length:Int))=True:=eq_true (by omega)
    have g1:=iget xs (i+1) hA
    have g0:=iget xs i (by omega)
    have hw:=Qah (a:=i+1) (by omega)
    have hdt:=Qna xs (i+1) hk1 hA
    rw [Nat.add_sub_cancel]at hdt
    by_cases he:xs.getD i 0=xs.getD (i+1) 0
    ·have he':(xs.getD (i+1) 0==xs.getD i 0)=true:=by rw [he];exact beq_self_eq_true _
     obtain⟨s1,s2⟩:=Q3i xs (i+1) hk1 hA hd (by rw [Nat.add_sub_cancel];exact he)
     have b1:(((i+1:Nat):Int)≤(xs.length:Int))=True:=eq_true (by omega)
     have b2:(i+1<xs.length)=True:=eq_true hA
     repeat (first|(simp -implicitDefEqProofs only [go_sem,Nat.reduceAdd,Nat.reduceMul,Nat.reduceEqDiff,Nat.reduceLT,Nat.reduceLeDiff,reduceCtorEq,hA',n0,n1,ws,l0,g0,g1,he',b1,b2,Int.toNat_natCast])|(with_reducible exact Qaa _ _ (by kernel_rfl))|(with_reducible refine And.intro (Qaa _ _ (by kernel_rfl)) ?_))
     refine Qas mixed (fun d:{d:Nat // 1≤d∧i+1+d≤xs.length∧(dd (xs.take (i+1+d))).length<i+1+d}=>St.of [(0,.bs 1000000 1 0 xs.length),(3,.int .i64 ((dd (xs.take (i+1+d.1))).length:Int)),(4,.bs 1000000 1 (i+1) (xs.length-(i+1))),(5,.int .i64 (d.1:Int))] [(1000000,iB (ddE xs (i+1+d.1)))]) (fun d=>xs.length-d.1) ⟨1,by omega,by omega,by rw [s2];omega⟩ ?_ ?_
     ·refine Qak (θ:=[(1000000,1000000)]) rfl ?_ ?_
      ·simp only [s2]
       simp [Qad,lkp,ren1,ren0,Qam]
      ·simp only [s1]
       exact⟨⟨rfl,rfl,rfl,rfl,rfl,.inl ⟨rfl,rfl⟩⟩,trivial⟩
     ·rintro⟨d,hd1,hdn,hdl⟩
      simp only
      obtain⟨e,rfl⟩: ∃e,d=e+1:=⟨d-1,by omega⟩
      by_cases hD:i+1+(e+1)<xs.length
      ·have hD':(((e+1:Nat):Int)<((xs.length-(i+1):Nat):Int))=True:=eq_true (by omega)
       have m1:=nnT (e+1)
       have m0:=nnT e
       have we:=Qd4 (n:=e) (by omega)
       have we2:=Qah (a:=e+1) (by omega)
       have l1:((e:Int)<((xs.length-(i+1):Nat):Int))=True:=eq_true (by omega)
       have q1:((ddE xs (i+1+(e+1))).map (PV.int .i64))[i+1+(e+1)]? =some (.int .i64 (xs.getD (i+1+(e+1)) 0)):=by
        rw [iget _ _ (by rw [Qnb];exact hD),Q3h _ _ _ (by omega)]
       have q0:((ddE xs (i+1+(e+1))).map (PV.int .i64))[i+1+e]? =some (.int .i64 (xs.getD (i+1+e) 0)):=by
        rw [iget _ _ (by rw [Qnb];omega),Q3h _ _ _ (by omega)]
       have hj:i+1+(e+1)-1=i+1+e:=by omega
       by_cases hx:xs.getD (i+1+e) 0=xs.getD (i+1+(e+1)) 0
       ·have hx':(xs.getD (i+1+(e+1)) 0 != xs.getD (i+1+e) 0)=false:=by rw [hx];simp
        obtain⟨k1,k2⟩:=Zbh xs (i+1+(e+1)) (by omega) hD (by rw [hj];exact hx)
        repeat (first|(simp -implicitDefEqProofs only [go_sem,Nat.reduceAdd,Nat.reduceMul,Nat.reduceEqDiff,Nat.reduceLT,Nat.reduceLeDiff,reduceCtorEq,hD',m1,m0,we,we2,l1,q1,q0,hx',Int.toNat_natCast])|(with_reducible exact Qaa _ _ (by kernel_rfl))|(with_reducible refine And.intro (Qaa _ _ (by kernel_rfl)) ?_))
        refine⟨⟨e+1+1,by omega,by omega,by show(dd (xs.take (i+1+(e+1)+1))).length<_;rw [k2];omega⟩,by simp only;omega,Qak (θ:=[(1000000,1000000)]) rfl ?_ ?_⟩
        ·have k3:(dd (xs.take (i+1+(e+1+1)))).length=(dd (xs.take (i+1+(e+1)))).length:=k2
         simp only [k3]
         simp [Qad,lkp,ren1,ren0,Qam]
        ·have k3:ddE xs (i+1+(e+1+1))=ddE xs (i+1+(e+1)):=k1
         simp only [k3]
         exact⟨⟨rfl,rfl,rfl,rfl,rfl,.inl ⟨rfl,rfl⟩⟩,trivial⟩
       ·have hx':(xs.getD (i+1+(e+1)) 0 != xs.getD (i+1+e) 0)=true:=bne_iff_ne.2 fun z=>hx z.symm
        have hdt2:=Qna xs (i+1+(e+1)) (by omega) hD
        rw [hj,if_neg hx]at hdt2
        have hst:=Zj8 xs (i+1+(e+1)) (by omega) hD hdl (by rw [hj];exact hx)
        have hst2:=iset (ddE xs (i+1+(e+1))) (dd (xs.take (i+1+(e+1)))).length (xs.getD (i+1+(e+1)) 0)
        rw [hst]at hst2
        have k2:(dd (xs.take (i+1+(e+1)+1))).length=(dd (xs.take (i+1+(e+1)))).length+1:=by rw [hdt2];simp
        have hg:=iget (ddE xs (i+1+(e+1))) (dd (xs.take (i+1+(e+1)))).length (by rw [Qnb];omega)
        generalize (dd (xs.take (i+1+(e+1)))).length=K at*
        have wk:=Qah (a:=K) (by omega)
        have nk:=nnT K
        have lk:((K:Int)<(xs.length:Int))=True:=eq_true (by omega)
        repeat (first|(simp -implicitDefEqProofs only [go_sem,Nat.reduceAdd,Nat.reduceMul,Nat.reduceEqDiff,Nat.reduceLT,Nat.reduceLeDiff,reduceIte,reduceCtorEq,hD',m1,m0,we,we2,l1,q1,q0,hx',wk,nk,lk,hg,hst2,Int.toNat_natCast])|(with_reducible exact Qaa _ _ (by kernel_rfl))|(with_reducible refine And.intro (Qaa _ _ (by kernel_rfl)) ?_))
        refine⟨⟨e+1+1,by omega,by omega,by show(dd (xs.take (i+1+(e+1)+1))).length<_;rw [k2];omega⟩,by simp only;omega,Qak (θ:=[(1000000,1000000)]) rfl ?_ ?_⟩
        ·have k3:(dd (xs.take (i+1+(e+1+1)))).length=K+1:=k2
         simp only [k3]
         simp [Qad,lkp,ren1,ren0,Qam]
        ·exact⟨⟨rfl,rfl,rfl,rfl,rfl,.inl ⟨rfl,rfl⟩⟩,trivial⟩
      ·have hD':(((e+1:Nat):Int)<((xs.length-(i+1):Nat):Int))=False:=eq_false (by omega)
       have hn:i+1+(e+1)=xs.length:=by omega
       have hK:(dd (xs.take (i+1+(e+1)))).length=(dd xs).length:=by rw [hn,List.take_length]
       rw [hK]at hdl
       have c1:(((dd xs).length:Int)≤(xs.length:Int))=True:=eq_true (by omega)
       have c2:((dd xs).length<xs.length)=True:=eq_true (by omega)
       have nk:=nnT (dd xs).length
       have f1:(Nat.ble 0 (dd xs).length&&((dd xs).length+(xs.length-(dd xs).length)).ble ((ddE xs (i+1+(e+1))).map (PV.int .i64)).length)=true:=by
        rw [List.length_map,Qnb,Bool.and_eq_true]
        exact⟨Nat.ble_eq_true_of_le (Nat.zero_le _),Nat.ble_eq_true_of_le (by omega)⟩
       have f2:((ddE xs (i+1+(e+1))).map (PV.int .i64)).take (dd xs).length++List.replicate (xs.length-(dd xs).length) (PV.int .i64 0)++
         ((ddE xs (i+1+(e+1))).map (PV.int .i64)).drop ((dd xs).length+(List.replicate (xs.length-(dd xs).length) (PV.int .i64 0)).length)=(ddB xs).map (PV.int .i64):=by
        have g1:(ddE xs (i+1+(e+1))).take (dd xs).length=dd xs:=by
         unfold ddE
         rw [hn,List.take_length]
         exact List.take_left' rfl
        have g2:((ddE xs (i+1+(e+1))).map (PV.int .i64)).drop ((dd xs).length+(List.replicate (xs.length-(dd xs).length) (PV.int .i64 0)).length)=[]:=List.drop_eq_nil_of_le (by rw [List.length_map,Qnb,List.length_replicate];omega)
        rw [g2,←List.map_take,g1,List.append_nil]
        unfold ddB
        rw [List.map_append,List.map_replicate]
       have c3:(((dd xs).length:Int)≤(xs.length:Int))=True:=eq_true (by omega)
       simp only [hK]
       repeat (first|(simp -implicitDefEqProofs only [go_sem,Nat.reduceAdd,Nat.reduceMul,Nat.reduceEqDiff,Nat.reduceLT,Nat.reduceLeDiff,reduceCtorEq,hD',c1,c2,c3,nk,f1,f2,Int.toNat_natCast])|(with_reducible exact Qaa _ _ (by kernel_rfl))|(with_reducible refine And.intro (Qaa _ _ (by kernel_rfl)) ?_))
       refine Qbm (.inl rfl) ?_
       simp -implicitDefEqProofs only [go_sem,Nat.reduceEqDiff,reduceCtorEq]
       refine Qak (θ:=[(1000000,1000000)]) rfl ?_ ?_
       ·simp [Qad,lkp,ren1,ren0,Qam]
       ·exact⟨⟨rfl,rfl,rfl,rfl,rfl,.inl ⟨rfl,rfl⟩⟩,trivial⟩
    ·have he':(xs.getD (i+1) 0==xs.getD i 0)=false:=beq_eq_false_iff_ne.2 fun e=>he e.symm
     repeat (first|(simp -implicitDefEqProofs only [go_sem,Nat.reduceAdd,Nat.reduceMul,Nat.reduceEqDiff,Nat.reduceLT,Nat.reduceLeDiff,reduceCtorEq,hA',n0,n1,ws,l0,g0,g1,he',hw,Int.toNat_natCast])|(with_reducible exact Qaa _ _ (by kernel_rfl))|(with_reducible refine And.intro (Qaa _ _ (by kernel_rfl)) ?_))
     refine⟨⟨i+1+1,by omega,by omega,?_⟩,by simp only;omega,Qak (θ:=[(1000000,1000000)]) rfl ?_ ?_⟩
     ·rw [hdt,if_neg he,hd,List.take_add_one (i:=i+1),List.getElem?_eq_getElem hA,gD hA];rfl
     ·simp [Qad,lkp,ren1,ren0,Qam]
     ·exact⟨⟨rfl,rfl,rfl,rfl,rfl,.inl ⟨rfl,rfl⟩⟩,trivial⟩
   ·have hA':=ltF hA
    obtain rfl:k=xs.length:=by omega
    rw [List.take_length]at hd
    have hB:ddB xs=xs:=by unfold ddB;rw [hd,Nat.sub_self];simp
    rw [hd,hB]
    repeat (first|(simp -implicitDefEqProofs only [go_sem,Nat.reduceAdd,Nat.reduceMul,Nat.reduceEqDiff,Nat.reduceLT,Nat.reduceLeDiff,reduceCtorEq,hA'])|(with_reducible exact Qaa _ _ (by kernel_rfl))|(with_reducible refine And.intro (Qaa _ _ (by kernel_rfl)) ?_))
    refine Qbm (.inl rfl) ?_
    simp -implicitDefEqProofs only [go_sem,Nat.reduceEqDiff,reduceCtorEq]
    refine Qak (θ:=[(1000000,1000000)]) rfl ?_ ?_
    ·simp [Qad,lkp,ren1,ren0,Qam]
    ·exact⟨⟨rfl,rfl,rfl,rfl,rfl,.inl ⟨rfl,rfl⟩⟩,trivial⟩
end Go.Proofs.YtlpiamlgibomhaaGreat
