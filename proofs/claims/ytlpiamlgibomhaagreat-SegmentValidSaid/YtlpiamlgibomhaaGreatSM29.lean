/-
  SM25, SM26, SM27, SM8s, SM28, SY1, SY9, SM29 (merged for the claim).
-/
import Derived.Test.YtlpiamlgibomhaaGreatSM24
import Derived.Test.YtlpiamlgibomhaaGreatUS4
import Derived.Test.YtlpiamlgibomhaaGreatSN2
import Derived.Test.YtlpiamlgibomhaaGreatRows
import Derived.Test.YtlpiamlgibomhaaGreatUV
import Derived.Test.YtlpiamlgibomhaaGreatSM3
set_option linter.unusedSimpArgs false
set_option linter.unusedVariables false
namespace Go.Proofs.YtlpiamlgibomhaaGreat
open Go.Vl Go.RowKit Go.Dg
def revL (s:Sg):Nat→List Int:=cmpL s 1 (-1) 1
def revS (W:Int) (s:Sg):Sg:=Q3a (W-s.t) (W-s.f) (revL s) s.o
def Qui (s:Sg):Prop:= ∀i,i<3→ ∀x∈revL s i,(x/(mdG (revL s) s.o 3:Int)).natAbs≤4611686018427387904
def revK (p:List Sg) (k:Nat):List Sg:=(List.range k).map fun j=>revS (pBeg p+pEnd p) (p.getD (p.length-1-j) sg0)
def revP (p:List Sg):List Sg:=revK p p.length
theorem Q3u (p:List Sg) (k:Nat):revK p (k+1)=revK p k++[revS (pBeg p+pEnd p) (p.getD (p.length-1-k) sg0)]:=by simp [revK,List.range_succ]
theorem Quj (p:List Sg) (k:Nat):(revK p k).length=k:=by simp [revK]
theorem Zbu {s:Sg} (hv:Qa2 s=true):Qml (revL s) s.o=true:=by
 obtain⟨⟨v1,v2,v3,v4,v5⟩, -, -⟩:=Qa4 hv
 refine decide_eq_true ?_
 unfold mdO
 exact Int.le_trans (Int.ediv_le_self _ (by omega)) v5
theorem Zbv:i64 1:=by unfold i64;omega
theorem Zd4:i64 (-1):=by unfold i64;omega
theorem Zi6 {s:Sg} (hs:okSg s) (hv:Qa2 s=true): ∀i,i<3→bd 12000 (revL s i)∧(revL s i).length≤6:=by
 intro i hi
 have hm:=Qsn s i hi
 obtain⟨l1,l6, -, -⟩:=Qco ((Qa4 hv).2.1 _ hm)
 exact⟨(Qp6 l6 (fun x hx=>Qau (hs.c _ hm x hx)) (Qau Zbv) (Qau Zd4) (Qau Zbv)).2,Q3b l6⟩
theorem Zmb (s:Sg) (W:Int) (hs:okSg s) (hv:Qa2 s=true) (hf:Qui s):
  Qag Tryz.prog 78 [.int .i64 (W-s.t),.int .i64 (W-s.f),.agg [wL (revL s 0),wL (revL s 1),wL (revL s 2)],wPV s.o] (.tup [sgPV (revS W s),.bool true]):=by
 have hbd:=Zi6 hs hv
 obtain⟨⟨v1,v2,v3,v4,v5⟩, -, -⟩:=Qa4 hv
 have h:=Q3c (W-s.t) (W-s.f) (revL s) s.o 12000 (by decide) (by omega) (Qeh (C:=12000) (Qau hs.o) (by decide)) (fun i hi=>(hbd i hi).1) (fun i hi=>by have:=(hbd i hi).2;omega) (fun _=>hf)
 rw [if_pos (Zbu hv)]at h
 exact h
def rvB (p:List Sg):Nat→List (Nat×Box)
 |0=>[(1000000,{els:=[.int .i64 (pBeg p)],esz:=1,ety:=3,fro:=0,live:=true,arr:=false}),(1000001,{els:=[.int .i64 (pEnd p)],esz:=1,ety:=3,fro:=0,live:=true,arr:=false}),(1000002,{els:=[.nilS],esz:=1,ety:=27,fro:=0,live:=true,arr:=false})]
 |k+1=>[(1000000,{els:=[.int .i64 (pBeg p)],esz:=1,ety:=3,fro:=0,live:=true,arr:=false}),(1000001,{els:=[.int .i64 (pEnd p)],esz:=1,ety:=3,fro:=0,live:=true,arr:=false}),(1000002,{els:=[.bs 7 6 0 (k+1)],esz:=1,ety:=27,fro:=0,live:=true,arr:=false}),(7,{els:=(revK p (k+1)).map sgPV,esz:=6,ety:=24,fro:=0,live:=true,arr:=true})]
theorem Zoa (p:List Sg) (k:Nat): ∀b∈ [1000000,1000001,1000002],(lkp (rvB p k) b).isSome=true:=by
 cases k<;>simp [rvB,lkp]
def Qh5 (p:List Sg):PV:=if Qbo p=true then .tup [Qaw (revP p),.int .i64 0]else .tup [Qaw [],.int .i64 2]
theorem Qsx {p:List Sg} (hV:Qbo p=true):0≤pBeg p∧pBeg p≤3600000∧0≤pEnd p∧pEnd p≤3600000:=by
 have h:=(Qcc hV).2.1
 have h1:p.length-1<p.length:=by omega
 have h0:0<p.length:=by omega
 obtain⟨⟨a1,a2,a3, -, -⟩, -, -⟩:=Qa4 (Qel hV _ h0)
 obtain⟨⟨b1,b2,b3, -, -⟩, -, -⟩:=Qa4 (Qel hV _ h1)
 unfold pBeg pEnd
 rw [sgD h0,sgD h1]
 omega
set_option maxHeartbeats 4000000 in
theorem Qxs (p:List Sg) (hp: ∀s∈p,okSg s) (hl:p.length≤100000) (hfit:Qbo p=true→ ∀s∈p,Qui s):Qag Tryz.prog 37 [Qaw p] (Qh5 p):=by
 have hs:=Qt3 p hp (by omega)
 unfold Qh5
 unfold Qaw at hs
 cases hV:Qbo p with
 |false=>
  rw [hV]at hs
  simp only [Bool.false_eq_true,if_false]at hs
  unfold Qaw
  refine Qac (tb:=[]) 51 [.tmp 2,.tmp 3] [0,2,3,4,5,6,7,9,10,19,22,23,24] mixed Tryz.func37 rfl (by kernel_rfl) (by kernel_rfl) (by kernel_rfl) (by kernel_rfl) ?_
  repeat (first|(simp -implicitDefEqProofs only [go_sem,Nat.reduceAdd,Nat.reduceMul,Nat.reduceEqDiff,Nat.reduceLT,Nat.reduceLeDiff,reduceCtorEq,Int.reduceNeg,Zks,Bool.false_eq_true,if_false,List.map_nil])|((with_reducible refine Qab (hs) ?_ ?_ ?_);(with_reducible rfl);rfl)|(with_reducible exact Qaa _ _ (by kernel_rfl))|(with_reducible refine And.intro (Qaa _ _ (by kernel_rfl)) ?_))
 |true=>
  rw [hV]at hs
  simp only [if_true]at hs ⊢
  have hv:=Qi6 hV
  have hft:=hfit hV
  obtain⟨e1,e2,e3,e4⟩:=Qsx hV
  have h1:=Zn9 p
  have hY:=Zl9 p hl
  unfold Qaw at h1 hY ⊢
  obtain⟨n,hn1⟩: ∃n,p.length=n+1:=⟨p.length-1,by have:=(Qcc hV).2.1;omega⟩
  have hlo:(Qd1 p).length=n+1:=by simp [Qd1,hn1]
  have hmin:min (Qd1 p).length (n+1+1)=n+1:=by omega
  have wab:IntKind.i64.wrap (pBeg p+pEnd p)=pBeg p+pEnd p:=Qah (by omega) (by omega)
  refine Qac (tb:=[]) 51 [.tmp 2,.tmp 3] [0,2,3,4,5,6,7,9,10,19,22,23,24] mixed Tryz.func37 rfl (by kernel_rfl) (by kernel_rfl) (by kernel_rfl) (by kernel_rfl) ?_
  repeat (first|(simp -implicitDefEqProofs only [go_sem,Nat.reduceAdd,Nat.reduceMul,Nat.reduceEqDiff,Nat.reduceLT,Nat.reduceLeDiff,reduceCtorEq,Int.reduceNeg,Qmc,Bool.false_eq_true,if_false])|((with_reducible refine Qab (hs) ?_ ?_ ?_);(with_reducible rfl);rfl)|((with_reducible refine Qab (h1) ?_ ?_ ?_);(with_reducible rfl);rfl)|(with_reducible exact Qaa _ _ (by kernel_rfl))|(with_reducible refine And.intro (Qaa _ _ (by kernel_rfl)) ?_))
  refine Qok mixed hY rfl rfl _ rfl [(1000000,106),(1000001,107),(1000002,400)] [1000000,1000001,1000002] rfl [(4,.bp 1000000 1 0 0),(5,.bp 1000001 1 0 0),(7,.bp 1000002 1 0 0)] (rvB p) rfl rfl ?_ ?_ ?_ (n+1) .normal (fun h=>by omega) (fun k _ _=>Zoa p k) ?_ rfl ?_
   [(400,1000002),(7,7)] [(7,.bp 400 1 0 0)] [(400,{els:=[.bs 7 6 0 (n+1)],esz:=1,ety:=27,fro:=0,live:=true,arr:=false}),(7,{els:=(revP p).map sgPV,esz:=6,ety:=24,fro:=0,live:=true,arr:=true})] rfl rfl ?_ ?_ (fun _=> ?_) (fun h=>by omega)
  ·simp [Qad,lkp,ren1,ren0,Qap]
  ·exact⟨⟨rfl,rfl,rfl,rfl,rfl,.inr ⟨rfl,_,_,rfl,rfl,rfl,rfl⟩⟩,⟨rfl,rfl,rfl,rfl,rfl,.inr ⟨rfl,_,_,rfl,rfl,rfl,rfl⟩⟩,⟨rfl,rfl,rfl,rfl,rfl,.inr ⟨rfl,_,_,rfl,rfl,rfl,rfl⟩⟩,trivial⟩
  ·simp [Qad,lkp,ren1,ren0,Qap,Qrp]
  ·intro k args h
   simp only [Qd1,List.getElem?_map,Option.map_eq_some_iff]at h
   obtain⟨x, -,rfl⟩:=h
   rfl
  ·rintro k args hka hk
   have hkl:k<n+1:=by have:=(List.getElem?_eq_some_iff.1 hka).1;omega
   have hargs:args=bwdO p k:=by
    simp only [Qd1,List.getElem?_map,List.getElem?_range (show k<p.length by omega),Option.map_some,Option.some.injEq]at hka
    exact hka.symm
   have hi:p.length-1-k<p.length:=by omega
   have hO:bwdO p k=[.int .i64 ((p.length-1-k:Nat):Int),sgPV p[p.length-1-k]]:=by unfold bwdO;rw [sgD hi]
   rw [hargs,hO]
   have hmem:=List.getElem_mem hi
   have hsn:=Q3u p k
   rw [sgD hi]at hsn
   have hok:=hp _ hmem
   have hvs:=hv _ hmem
   have f4:=Zmb p[p.length-1-k] (pBeg p+pEnd p) hok hvs (hft _ hmem)
   generalize p[p.length-1-k]=s at*
   generalize ((p.length-1-k:Nat):Int)=ix at*
   clear hO hargs hka hi hmem
   obtain⟨⟨v1,v2,v3,v4,v5⟩,hax, -⟩:=Qa4 hvs
   have w1:IntKind.i64.wrap (pBeg p+pEnd p-s.t)=pBeg p+pEnd p-s.t:=Qah (by omega) (by omega)
   have w2:IntKind.i64.wrap (pBeg p+pEnd p-s.f)=pBeg p+pEnd p-s.f:=Qah (by omega) (by omega)
   have f1:=Qm6 s 1 (-1) 1 hok (fun c hc=>(Qco (hax c hc)).2.1) Zbv Zd4 Zbv (by omega)
   have eL:cmpL s 1 (-1) 1=revL s:=rfl
   rw [eL]at f1
   have f2:=Qen s.o hok.o.1 hok.o.2
   have hsn2:(revK p (k+1)).map sgPV=(revK p k).map sgPV++[.agg [.int .i64 (revS (pBeg p+pEnd p) s).f,.int .i64 (revS (pBeg p+pEnd p) s).t,.int .i64 (revS (pBeg p+pEnd p) s).o,.slc ((revS (pBeg p+pEnd p) s).x.map (PV.int .i64)),.slc ((revS (pBeg p+pEnd p) s).y.map (PV.int .i64)),.slc ((revS (pBeg p+pEnd p) s).z.map (PV.int .i64))]]:=by rw [hsn,List.map_append];rfl
   generalize revL s=L at*
   generalize revS (pBeg p+pEnd p) s=R at*
   unfold sgPV at f1 f4
   unfold wL at f1 f4
   have hlen:((revK p k).map sgPV).length=k:=by rw [List.length_map,Quj]
   have hokf:=Qh2 (revK p k)
   have c1:((k+1)*96≤140737488355328)=True:=eq_true (by omega)
   have c2:(k+1≤maxLen)=True:=eq_true (by unfold maxLen;omega)
   cases k with
   |zero=>
    simp only [rvB]
    have e0:(revK p 0).map sgPV=[]:=rfl
    rw [e0,List.nil_append]at hsn2
    repeat (first|(simp -implicitDefEqProofs only [go_sem,Nat.reduceAdd,Nat.reduceMul,Nat.reduceEqDiff,Nat.reduceLT,Nat.reduceLeDiff,reduceCtorEq,Int.reduceNeg,pvars,List.toList_toArray,sgPV])|(with_reducible exact Qaa _ _ (by kernel_rfl))|(with_reducible refine And.intro (Qaa _ _ (by kernel_rfl)) ?_))
    refine⟨by simp [lkp],?_⟩
    repeat (first|(simp -implicitDefEqProofs only [go_sem,Nat.reduceAdd,Nat.reduceMul,Nat.reduceEqDiff,Nat.reduceLT,Nat.reduceLeDiff,reduceCtorEq,Int.reduceNeg,wPV,wab,w1,w2])|((with_reducible refine Qab (f1) ?_ ?_ ?_);(with_reducible rfl);rfl)|((with_reducible refine Qab (f2) ?_ ?_ ?_);(with_reducible rfl);rfl)|((with_reducible refine Qab (f4) ?_ ?_ ?_);(with_reducible rfl);rfl)|(with_reducible exact Qaa _ _ (by kernel_rfl))|(with_reducible refine And.intro (Qaa _ _ (by kernel_rfl)) ?_))
    refine⟨by omega,?_⟩
    refine Qal (θ:=[(1000000,1000000),(1000001,1000001),(1000002,1000002),(7,803)]) rfl ?_ ?_
    ·simp [Qad,lkp,ren1,ren0,Qap]
    ·simp only [rvB,hsn2]
     exact⟨⟨rfl,rfl,rfl,rfl,rfl,.inr ⟨rfl,_,_,rfl,rfl,rfl,rfl⟩⟩,⟨rfl,rfl,rfl,rfl,rfl,.inr ⟨rfl,_,_,rfl,rfl,rfl,rfl⟩⟩,⟨rfl,rfl,rfl,rfl,rfl,.inr ⟨rfl,_,_,rfl,rfl,rfl,rfl⟩⟩,⟨rfl,rfl,rfl,rfl,rfl,.inl ⟨rfl,rfl⟩⟩,trivial⟩
   |succ k=>
    simp only [rvB]
    generalize (revK p (k+1)).map sgPV=T at*
    repeat (first|(simp -implicitDefEqProofs only [go_sem,Nat.reduceAdd,Nat.reduceMul,Nat.reduceEqDiff,Nat.reduceLT,Nat.reduceLeDiff,reduceCtorEq,Int.reduceNeg,pvars,List.toList_toArray,sgPV])|(with_reducible exact Qaa _ _ (by kernel_rfl))|(with_reducible refine And.intro (Qaa _ _ (by kernel_rfl)) ?_))
    refine⟨by simp [lkp],?_⟩
    repeat (first|(simp -implicitDefEqProofs only [go_sem,Nat.reduceAdd,Nat.reduceMul,Nat.reduceEqDiff,Nat.reduceLT,Nat.reduceLeDiff,reduceCtorEq,Nat.reduceBneDiff,Int.reduceNeg,wPV,wab,w1,w2,hlen,hokf,c1,c2])|((with_reducible refine Qab (f1) ?_ ?_ ?_);(with_reducible rfl);rfl)|((with_reducible refine Qab (f2) ?_ ?_ ?_);(with_reducible rfl);rfl)|((with_reducible refine Qab (f4) ?_ ?_ ?_);(with_reducible rfl);rfl)|(with_reducible exact Qaa _ _ (by kernel_rfl))|(with_reducible refine And.intro (Qaa _ _ (by kernel_rfl)) ?_))
    refine⟨by omega,?_⟩
    refine Qal (θ:=[(1000000,1000000),(1000001,1000001),(1000002,1000002),(7,803)]) rfl ?_ ?_
    ·simp [Qad,lkp,ren1,ren0,Qap]
    ·simp only [rvB,hsn2]
     exact⟨⟨rfl,rfl,rfl,rfl,rfl,.inr ⟨rfl,_,_,rfl,rfl,rfl,rfl⟩⟩,⟨rfl,rfl,rfl,rfl,rfl,.inr ⟨rfl,_,_,rfl,rfl,rfl,rfl⟩⟩,⟨rfl,rfl,rfl,rfl,rfl,.inr ⟨rfl,_,_,rfl,rfl,rfl,rfl⟩⟩,⟨rfl,rfl,rfl,rfl,rfl,.inl ⟨rfl,rfl⟩⟩,trivial⟩
  ·simp [Qad,lkp,ren1,ren0,Qap]
  ·rw [hmin]
   have e:revK p (n+1)=revP p:=by unfold revP;rw [hn1]
   simp only [rvB,e]
   exact⟨⟨rfl,rfl,rfl,rfl,rfl,.inr ⟨rfl,_,_,rfl,rfl,rfl,rfl⟩⟩,⟨rfl,rfl,rfl,rfl,rfl,.inl ⟨rfl,rfl⟩⟩,trivial⟩
  ·have b1:((revP p).map sgPV).length=n+1:=by rw [List.length_map,revP,Quj,hn1]
   have b2:(((revP p).map sgPV).flatMap PV.cells).all PV.okCell=true:=Qh2 _
   have b3:((revP p).map sgPV).take (n+1)=(revP p).map sgPV:=List.take_of_length_le (by omega)
   generalize (revP p).map sgPV=T at*
   repeat (first|(simp -implicitDefEqProofs only [go_sem,Nat.reduceAdd,Nat.reduceMul,Nat.reduceEqDiff,Nat.reduceLT,Nat.reduceLeDiff,reduceCtorEq,b1,b2,b3])|(with_reducible exact Qaa _ _ (by kernel_rfl))|(with_reducible refine And.intro (Qaa _ _ (by kernel_rfl)) ?_))
end Go.Proofs.YtlpiamlgibomhaaGreat

namespace Go.Proofs.YtlpiamlgibomhaaGreat
open Go.Vl Go.RowKit Go.Dg
instance (x:Int):Decidable (i64 x):=by unfold i64;infer_instance
def okB (s:Sg):Bool:=decide (i64 s.f)&&(decide (i64 s.t)&&(decide (i64 s.o)&&(s.ax.all fun c=>c.all (fun x=>decide (i64 x))&&decide (c.length≤1000))))
theorem Q3v {s:Sg} (h:okB s=true):okSg s:=by
 unfold okB at h
 simp only [Bool.and_eq_true,decide_eq_true_eq,List.all_eq_true]at h
 obtain⟨h1,h2,h3,h4⟩:=h
 exact⟨h1,h2,h3,fun c hc=>(h4 c hc).1,fun c hc=>(h4 c hc).2⟩
theorem Zd5 {p:List Sg} (h:p.all okB=true): ∀s∈p,okSg s:=fun s hs=>Q3v (List.all_eq_true.1 h s hs)
def ex0:List Sg:=[⟨1000,3000,1,[100,20],[0,0,8],[50]⟩]
def exS:List Sg:=[⟨3000,4000,1,[120],[8],[50]⟩]
theorem Qh6: ∀s∈ex0,okSg s:=Zd5 (by decide+kernel)
theorem Zmc: ∀s∈exS,okSg s:=Zd5 (by decide+kernel)
theorem Qcj:Qbo ex0=true:=by decide+kernel
theorem Zmd {n:Nat} (h0:0<n) (h:n<256):digs 256 n=[n]:=by
 rw [digs,dif_neg (by omega),Nat.mod_eq_of_lt h,Nat.div_eq_of_lt h,Qax]
theorem mB_1 {n:Nat} (h0:0<n) (h:n<256):mB (n:Int)=⟨#[UInt8.ofNat n]⟩:=by
 unfold mB magL
 rw [Int.natAbs_natCast,Zmd h0 h];rfl
theorem at0:atPV ex0 2000= .tup [vPV 110 2 50,.int .i64 0]:=by
 have h1:lasts ex0 2000=true:=by decide+kernel
 have e1:rnd (exQ ex0 2000 0) (exO ex0 2000)=110:=by decide+kernel
 have e2:rnd (exQ ex0 2000 1) (exO ex0 2000)=2:=by decide+kernel
 have e3:rnd (exQ ex0 2000 2) (exO ex0 2000)=50:=by decide+kernel
 unfold atPV
 rw [if_pos Qcj,if_pos h1,e1,e2,e3]
theorem at1:atPV ex0 1500= .tup [vPV 105 1 50,.int .i64 0]:=by
 have h1:lasts ex0 1500=true:=by decide+kernel
 have e1:rnd (exQ ex0 1500 0) (exO ex0 1500)=105:=by decide+kernel
 have e2:rnd (exQ ex0 1500 1) (exO ex0 1500)=1:=by decide+kernel
 have e3:rnd (exQ ex0 1500 2) (exO ex0 1500)=50:=by decide+kernel
 unfold atPV
 rw [if_pos Qcj,if_pos h1,e1,e2,e3]
theorem at2:atPV ex0 1250= .tup [vPV 103 0 50,.int .i64 0]:=by
 have h1:lasts ex0 1250=true:=by decide+kernel
 have e1:rnd (exQ ex0 1250 0) (exO ex0 1250)=103:=by decide+kernel
 have e2:rnd (exQ ex0 1250 1) (exO ex0 1250)=0:=by decide+kernel
 have e3:rnd (exQ ex0 1250 2) (exO ex0 1250)=50:=by decide+kernel
 unfold atPV
 rw [if_pos Qcj,if_pos h1,e1,e2,e3]
theorem ex_q:exQ ex0 1500 0=210∧exQ ex0 1500 1=1∧exQ ex0 1500 2=100∧exO ex0 1500=2∧lasts ex0 1500=true:=by decide+kernel
theorem Zi7:Qna ex0 2000 3000= .tup [Qaw [⟨2000,3000,1,[110,10],[2,4,2],[50]⟩],.int .i64 0]:=by
 have h1:pBeg ex0≤2000∧(2000:Int)<3000∧3000≤pEnd ex0:=by decide+kernel
 have h2:(spans ex0 2000 3000).all spF=true:=by decide+kernel
 have h3:(spans ex0 2000 3000).map spS=[⟨2000,3000,1,[110,10],[2,4,2],[50]⟩]:=by kernel_rfl
 unfold Qna Qom
 rw [if_pos Qcj,if_pos h1,if_pos h2,h3]
theorem Zi8:Qna ex0 1000 1500= .tup [Qaw [⟨1000,1500,2,[200,10],[0,0,1],[100]⟩],.int .i64 0]:=by
 have h1:pBeg ex0≤1000∧(1000:Int)<1500∧1500≤pEnd ex0:=by decide+kernel
 have h2:(spans ex0 1000 1500).all spF=true:=by decide+kernel
 have h3:(spans ex0 1000 1500).map spS=[⟨1000,1500,2,[200,10],[0,0,1],[100]⟩]:=by kernel_rfl
 unfold Qna Qom
 rw [if_pos Qcj,if_pos h1,if_pos h2,h3]
theorem Zme:Qh5 ex0= .tup [Qaw [⟨1000,3000,1,[120, -20],[8, -16,8],[50]⟩],.int .i64 0]:=by
 have h3:revP ex0=[⟨1000,3000,1,[120, -20],[8, -16,8],[50]⟩]:=by kernel_rfl
 unfold Qh5
 rw [if_pos Qcj,h3]
theorem Zmf: ∀s∈ex0,Qui s:=by unfold Qui;decide+kernel
theorem Zi9:Qxr ex0 ex0= .tup [Qaw [],.int .i64 10]:=by
 have h: ¬Qqf ex0 ex0=true:=by decide+kernel
 unfold Qxr
 rw [if_pos ⟨Qcj,Qcj⟩,if_neg h]
theorem Zja:Qxr ex0 exS= .tup [Qaw (ex0++exS),.int .i64 0]:=by
 have h:Qqf ex0 exS=true:=by decide+kernel
 have h2:Qbo exS=true:=by decide+kernel
 unfold Qxr
 rw [if_pos ⟨Qcj,h2⟩,if_pos h];rfl
end Go.Proofs.YtlpiamlgibomhaaGreat

namespace Go.Proofs.YtlpiamlgibomhaaGreat
open Go.Vl Go.RowKit Go.Dg
theorem Q3w:Qag Tryz.prog 45 [] (Qaw ex0):=by
 refine Qac (tb:=[]) 6 [.tmp 0] [0] mixed Tryz.func45 rfl (by kernel_rfl) (by kernel_rfl) (by kernel_rfl) (by kernel_rfl) ?_
 repeat (first|(simp -implicitDefEqProofs only [go_sem,Nat.reduceAdd,Nat.reduceMul,Nat.reduceEqDiff,Nat.reduceLT,Nat.reduceLeDiff,reduceCtorEq]))
 rfl
theorem Zbw:Qc9 Tryz.prog 45 [] [] (.bs 104 6 0 1) [(104,{els:=ex0.map sgPV,esz:=6,ety:=24,fro:=0,live:=true,arr:=true})]:=by
 refine Qcx (tb:=[]) 6 [.tmp 0] [0] mixed Tryz.func45 rfl (by kernel_rfl) (by kernel_rfl) (by kernel_rfl) (by kernel_rfl) (by rfl) ?_
 repeat (first|(simp -implicitDefEqProofs only [go_sem,Nat.reduceAdd,Nat.reduceMul,Nat.reduceEqDiff,Nat.reduceLT,Nat.reduceLeDiff,reduceCtorEq]))
 trace_state
 refine Qb1 (.inl rfl) ?_
 simp -implicitDefEqProofs only [go_sem]
 refine Qal (θ:=[(104,104)]) rfl ?_ ?_
 ·simp [Qad,lkp,ren1,ren0,Qap]
 ·exact⟨⟨rfl,rfl,rfl,rfl,rfl,.inl ⟨rfl,rfl⟩⟩,trivial⟩
theorem Zjb (t x y z:Int) (ht:i64 t) (h:atPV ex0 t= .tup [vPV x y z,.int .i64 0]):Qag Tryz.prog 44 [.int .i64 t,.agg [.int .i64 x,.int .i64 y,.int .i64 z]] (.bool true):=by
 have h1:=Q3w
 have h2:=Zpr ex0 t Qh6 (by decide) ht
 rw [h]at h2
 unfold Qaw at h1 h2
 unfold vPV at h2
 generalize ex0.map sgPV=E at*
 refine Qac (tb:=[]) 20 [.tmp 4] [0,1,3,4,5,6] mixed Tryz.func44 rfl (by kernel_rfl) (by kernel_rfl) (by kernel_rfl) (by kernel_rfl) ?_
 repeat (first|(simp -implicitDefEqProofs only [go_sem,Nat.reduceAdd,Nat.reduceMul,Nat.reduceEqDiff,Nat.reduceLT,Nat.reduceLeDiff,reduceCtorEq,beq_self_eq_true,Qrj])|((with_reducible refine Qab (h1) ?_ ?_ ?_);(with_reducible rfl);rfl)|((with_reducible refine Qab (h2) ?_ ?_ ?_);(with_reducible rfl);rfl))
theorem Zmg (s w:Sg) (hs: ∀c∈s.ax,c.length≤1000000000) (hw: ∀c∈w.ax,c.length≤1000000000):Qag Tryz.prog 46 [.slc [sgPV s],.int .i64 0,sgPV w] (.bool (Qk1 s w)):=by
 have h:=Qix s w hs hw
 unfold sgPV Qan at h ⊢
 generalize Qk1 s w=b at*
 have g0: ∀v:PV,[v][0]? =some v:=fun _=>rfl
 refine Qac (tb:=[]) 21 [.tmp 6] [0,1,2,5,6] mixed Tryz.func46 rfl (by kernel_rfl) (by kernel_rfl) (by kernel_rfl) (by kernel_rfl) ?_
 repeat (first|(simp -implicitDefEqProofs only [go_sem,Nat.reduceAdd,Nat.reduceMul,Nat.reduceEqDiff,Nat.reduceLT,Nat.reduceLeDiff,reduceCtorEq,Qrj,g0,List.length_cons,List.length_nil])|((with_reducible refine Qab (h) ?_ ?_ ?_);(with_reducible rfl);rfl)|(with_reducible exact Qaa _ _ (by kernel_rfl))|(with_reducible refine And.intro (Qaa _ _ (by kernel_rfl)) ?_))
theorem Q3x (P:List PV) (e w:Int):Qag Tryz.prog 25 [.slc P,.int .i64 e,.int .i64 w] (.bool ((e==w)&&((P.length:Int)==0))):=by
 refine Qac (tb:=[]) 15 [.tmp 6] [0,1,2,6] mixed Tryz.func25 rfl (by kernel_rfl) (by kernel_rfl) (by kernel_rfl) (by kernel_rfl) ?_
 cases h:(e==w)with
 |true=>repeat (first|(simp -implicitDefEqProofs only [go_sem,Nat.reduceAdd,Nat.reduceMul,Nat.reduceEqDiff,Nat.reduceLT,Nat.reduceLeDiff,reduceCtorEq,h,Bool.true_and]))
 |false=>repeat (first|(simp -implicitDefEqProofs only [go_sem,Nat.reduceAdd,Nat.reduceMul,Nat.reduceEqDiff,Nat.reduceLT,Nat.reduceLeDiff,reduceCtorEq,h,Bool.false_and]))
end Go.Proofs.YtlpiamlgibomhaaGreat

namespace Go.Proofs.YtlpiamlgibomhaaGreat
open Go.Vl Go.RowKit Go.Dg
theorem Qsy (a b:List Sg) (ha:lenP a) (hb:lenP b):Qag Tryz.prog 24 [Qaw a,Qaw b] (.bool (Q26 a b)):=by
 have la:=ha.1
 have lb:=hb.1
 by_cases hl:a.length=b.length
 case neg=>
  have n1:((a.length:Int) != (b.length:Int))=true:=by simp only [bne_iff_ne,ne_eq];omega
  unfold Q26
  rw [decide_eq_false hl,Bool.false_and]
  refine Qac (tb:=[]) 27 [.tmp 4] [0,1,4,5,10,14,26] mixed Tryz.func24 rfl (by kernel_rfl) (by kernel_rfl) (by kernel_rfl) (by kernel_rfl) ?_
  repeat (first|(simp -implicitDefEqProofs only [go_sem,Nat.reduceAdd,Nat.reduceMul,Nat.reduceEqDiff,Nat.reduceLT,Nat.reduceLeDiff,reduceCtorEq,List.length_map,n1])|(with_reducible exact Qaa _ _ (by kernel_rfl))|(with_reducible refine And.intro (Qaa _ _ (by kernel_rfl)) ?_))
 have n1:((a.length:Int) != (b.length:Int))=false:=by rw [hl];simp
 have e0:Q26 a b=Qg4 a b a.length:=by unfold Q26;rw [decide_eq_true hl,Bool.true_and]
 rw [e0]
 refine Qac (tb:=[]) 27 [.tmp 4] [0,1,4,5,10,14,26] mixed Tryz.func24 rfl (by kernel_rfl) (by kernel_rfl) (by kernel_rfl) (by kernel_rfl) ?_
 repeat (first|(simp -implicitDefEqProofs only [go_sem,Nat.reduceAdd,Nat.reduceMul,Nat.reduceEqDiff,Nat.reduceLT,Nat.reduceLeDiff,reduceCtorEq,List.length_map,n1])|(with_reducible exact Qaa _ _ (by kernel_rfl))|(with_reducible refine And.intro (Qaa _ _ (by kernel_rfl)) ?_))
 have z0:0≤a.length∧Qg4 a b 0=true:=⟨Nat.zero_le _,rfl⟩
 refine Qas mixed (fun i:{i:Nat // i≤a.length∧Qg4 a b i=true}=>St.of [(0,Qaw a),(1,Qaw b),(4,.bool false),(5,.int .i64 (i.1:Int))] []) (fun i=>a.length-i.1) ⟨0,z0⟩ ?_ ?_
 ·exact Qa1 (by simp [Qad,lkp,ren1,ren0,Qaw])
 ·rintro⟨i,hi,hall⟩
  by_cases hA:i<a.length
  ·have hA':=ltT hA
   have n0:=nnT i
   have hB:i<b.length:=by omega
   have g1:=Qct a i hA
   have g2:=Qct b i hB
   have hwk:=Qaj (a:=i) (by omega)
   have hs:=Qix a[i] b[i] (ha.2 _ (List.getElem_mem hA)) (hb.2 _ (List.getElem_mem hB))
   have es:Qk1 (a.getD i sg0) (b.getD i sg0)=Qk1 a[i] b[i]:=by rw [sgD hA,sgD hB]
   unfold sgPV Qan at hs
   cases hx:Qk1 a[i] b[i]with
   |true=>
    rw [hx]at hs
    have hn:Qg4 a b (i+1)=true:=by rw [Qsj,hall,es,hx];rfl
    repeat (first|(simp -implicitDefEqProofs only [go_sem,Nat.reduceAdd,Nat.reduceMul,Nat.reduceEqDiff,Nat.reduceLT,Nat.reduceLeDiff,reduceCtorEq,hA',n0,g1,g2,hwk,Int.toNat_natCast,List.length_map])|((with_reducible refine Qab (hs) ?_ ?_ ?_);(with_reducible rfl);rfl)|(with_reducible exact Qaa _ _ (by kernel_rfl))|(with_reducible refine And.intro (Qaa _ _ (by kernel_rfl)) ?_))
    refine⟨⟨i+1,hA,hn⟩,by simp only;omega,Qa1 (by simp [Qad,lkp,ren1,ren0,Qaw])⟩
   |false=>
    rw [hx]at hs
    rw [Qxi (es.trans hx) hA]
    repeat (first|(simp -implicitDefEqProofs only [go_sem,Nat.reduceAdd,Nat.reduceMul,Nat.reduceEqDiff,Nat.reduceLT,Nat.reduceLeDiff,reduceCtorEq,hA',n0,g1,g2,Int.toNat_natCast,List.length_map])|((with_reducible refine Qab (hs) ?_ ?_ ?_);(with_reducible rfl);rfl)|(with_reducible exact Qaa _ _ (by kernel_rfl))|(with_reducible refine And.intro (Qaa _ _ (by kernel_rfl)) ?_))
  ·have hA':=ltF hA
   obtain rfl:i=a.length:=by omega
   repeat (first|(simp -implicitDefEqProofs only [go_sem,Nat.reduceAdd,Nat.reduceMul,Nat.reduceEqDiff,Nat.reduceLT,Nat.reduceLeDiff,reduceCtorEq,hA',hall,List.length_map])|(with_reducible exact Qaa _ _ (by kernel_rfl))|(with_reducible refine And.intro (Qaa _ _ (by kernel_rfl)) ?_))
end Go.Proofs.YtlpiamlgibomhaaGreat

namespace Go.Proofs.YtlpiamlgibomhaaGreat
open Go.Vl Go.RowKit Go.Dg
theorem Zob (b:ByteArray):(b != b)=false:=by show(!(b==b))=false;rw [Q4c];rfl
theorem Qsz {s:Sg} (h:(s.ax.all fun c=>Nat.ble c.length 1000)=true): ∀c∈s.ax,c.length≤1000000000:=fun c hc=>by
 have:=Nat.le_of_ble_eq_true (List.all_eq_true.1 h c hc);omega
theorem b210:mB 210=⟨#[210]⟩:=mB_1 (n:=210) (by decide) (by decide)
theorem b1:mB 1=⟨#[1]⟩:=mB_1 (n:=1) (by decide) (by decide)
theorem b100:mB 100=⟨#[100]⟩:=mB_1 (n:=100) (by decide) (by decide)
theorem b2:mB 2=⟨#[2]⟩:=mB_1 (n:=2) (by decide) (by decide)
def exPl:PV:= .agg [.bool false,.str ⟨#[210]⟩,.bool false,.str ⟨#[1]⟩,.bool false,.str ⟨#[100]⟩,.bool false,.str ⟨#[2]⟩]
theorem Quk:Qae 210 1 100 2=exPl:=by unfold Qae;rw [b210,b1,b100,b2];rfl
theorem kexact:Qag Tryz.prog 15 [Qaw ex0,.int .i64 1500] (.tup [exPl,.int .i64 0]):=by
 have h:=Qvq ex0 1500 Qh6 (by decide) (by unfold i64;decide)
 obtain⟨q1,q2,q3,q4,q5⟩:=ex_q
 unfold Qpi at h
 rwa [if_pos Qcj,if_pos q5,q1,q2,q3,q4,Quk]at h
theorem krexact:Qag Tryz.prog 19 [Qaw ex0,.int .i64 1500] (Qew [210,1,100] 2):=by
 obtain⟨q1,q2,q3,q4,q5⟩:=ex_q
 have h:=Zdm ex0 1500 Qh6 (by decide) (by unfold i64;decide) Qcj q5
 rwa [q1,q2,q3,q4]at h
theorem kout:Qag Tryz.prog 20 [Qew [210,1,100] 2] exPl:=by
 have h:=Zlx 210 1 100 2 10 (by decide) (by decide) (by decide) (by decide) (by decide)
 rwa [Quk]at h
theorem Zoc:Qag Tryz.prog 23 [Qaw ex0,.int .i64 2000,.int .i64 3000] (.tup [Qaw [⟨2000,3000,1,[110,10],[2,4,2],[50]⟩],.int .i64 0]):=by
 have h:=Zd3 ex0 2000 3000 Qh6 (by decide)
 rwa [Zi7]at h
theorem Zod:Qag Tryz.prog 23 [Qaw ex0,.int .i64 1000,.int .i64 1500] (.tup [Qaw [⟨1000,1500,2,[200,10],[0,0,1],[100]⟩],.int .i64 0]):=by
 have h:=Zd3 ex0 1000 1500 Qh6 (by decide)
 rwa [Zi8]at h
theorem krev:Qag Tryz.prog 37 [Qaw ex0] (.tup [Qaw [⟨1000,3000,1,[120, -20],[8, -16,8],[50]⟩],.int .i64 0]):=by
 have h:=Qxs ex0 Qh6 (by decide) (fun _=>Zmf)
 rwa [Zme]at h
theorem Zoe:Qag Tryz.prog 27 [Qaw ex0,Qaw ex0] (.tup [Qaw [],.int .i64 10]):=by
 have h:=Qqg ex0 ex0 Qh6 Qh6 (by decide) (by decide)
 rwa [Zi9]at h
theorem Zof:Qag Tryz.prog 27 [Qaw ex0,Qaw exS] (.tup [Qaw (ex0++exS),.int .i64 0]):=by
 have h:=Qqg ex0 exS Qh6 Zmc (by decide) (by decide)
 rwa [Zja]at h
theorem kone (s:Sg) (h:(s.ax.all fun c=>Nat.ble c.length 1000)=true) (hs:Qk1 s s=true):Qag Tryz.prog 46 [.slc [sgPV s],.int .i64 0,sgPV s] (.bool true):=by
 have:=Zmg s s (Qsz h) (Qsz h)
 rwa [hs]at this
theorem Zd6 (p:List Sg) (h:p=ex0∨p=exS):Qag Tryz.prog 24 [Qaw p,Qaw p] (.bool true):=by
 have hl:lenP p:=by rcases h with rfl|rfl<;>exact⟨by decide,fun s hs=>by rw [List.mem_singleton.1 hs];exact Qsz rfl⟩
 have h1:=Qsy p p hl hl
 have h2:Q26 p p=true:=by rcases h with rfl|rfl<;>decide+kernel
 rwa [h2]at h1
theorem kvalid (s:Sg) (b:Bool) (h:okB s=true) (h2:Qa2 s=b):Qag Tryz.prog 13 [sgPV s] (.bool b):=by
 have:=Qon s (Q3v h)
 rwa [h2]at this
set_option maxHeartbeats 8000000 in
set_option maxRecDepth 100000 in
theorem Qxt:Qag Tryz.prog 12 [] (.bool true):=by
 have hpath:=Q3w
 have hpathB:=Zbw
 have a0:=Zjb 2000 110 2 50 (by unfold i64;decide) at0
 have a1:=Zjb 1500 105 1 50 (by unfold i64;decide) at1
 have a2:=Zjb 1250 103 0 50 (by unfold i64;decide) at2
 have ke:=kexact
 have kr:=krexact
 have ko:=kout
 have c1:=Zoc
 have c2:=Zod
 have r1:=krev
 have o1:=kone ⟨2000,3000,1,[110,10],[2,4,2],[50]⟩ rfl (by decide+kernel)
 have o2:=kone ⟨1000,1500,2,[200,10],[0,0,1],[100]⟩ rfl (by decide+kernel)
 have o3:=kone ⟨1000,3000,1,[120, -20],[8, -16,8],[50]⟩ rfl (by decide+kernel)
 have p1:=Zoe
 have p2:=Zof
 have f1:=Q3x [] 10 10
 have s1:=Zd6 ex0 (.inl rfl)
 have s2:=Zd6 exS (.inr rfl)
 have v1:=kvalid ⟨1000,3000,1,[100,20],[0,0,8],[50,0]⟩ false (by decide+kernel) (by decide+kernel)
 have v2:=kvalid ⟨1000,3000,2,[200],[2],[4]⟩ false (by decide+kernel) (by decide+kernel)
 have v3:=kvalid ⟨1000,3000,1,[100,20],[0,0,8],[50]⟩ true (by decide+kernel) (by decide+kernel)
 have fb:((10:Int)==10&&(([]:List PV).length:Int)==0)=true:=rfl
 rw [fb]at f1
 obtain⟨R1,R2,R3,hR⟩: ∃R1 R2 R3,Qew [210,1,100] 2= .agg [.slc R1,.bool R2,.slc R3]:=⟨_,_,_,rfl⟩
 rw [hR]at kr ko
 clear hR
 unfold exPl at ke ko
 simp only [Qaw,ex0,exS,sgPV,Qan,List.map_cons,List.map_nil,List.cons_append,List.nil_append]at hpath hpathB ke kr c1 c2 r1 o1 o2 o3 p1 p2 s1 s2 v1 v2 v3
 have g0: ∀v:PV,[v][0]? =some v:=fun _=>rfl
 have bl1:Nat.blt 1700 1000000=true:=rfl
 have bl2:Nat.blt 1701 1000000=true:=rfl

 refine Qac (tb:=[(1700,[],[(104,1700)]),(1701,[],[(104,1701)])]) 193 [.tmp 0] [0,1,2,3,4,5,6,7,8,9,10,11,12,13,14,27,81,109,153] mixed Tryz.func12 rfl (by kernel_rfl) (by kernel_rfl) (by kernel_rfl) (by kernel_rfl) ?_
 repeat (first|(simp -implicitDefEqProofs only [go_sem,Nat.reduceAdd,Nat.reduceMul,Nat.reduceEqDiff,Nat.reduceLT,Nat.reduceLeDiff,reduceCtorEq,Int.reduceNeg,g0,Qmc,Qrj,Bool.not_true,Bool.not_false])|((with_reducible refine Qab (a0) ?_ ?_ ?_);(with_reducible rfl);rfl)|((with_reducible refine Qab (a1) ?_ ?_ ?_);(with_reducible rfl);rfl)|((with_reducible refine Qab (a2) ?_ ?_ ?_);(with_reducible rfl);rfl)|((with_reducible refine Qab (hpath) ?_ ?_ ?_);(with_reducible rfl);rfl)|((with_reducible refine Qab (ke) ?_ ?_ ?_);(with_reducible rfl);rfl)|((with_reducible refine Qab (c1) ?_ ?_ ?_);(with_reducible rfl);rfl)|((with_reducible refine Qab (c2) ?_ ?_ ?_);(with_reducible rfl);rfl)|((with_reducible refine Qab (r1) ?_ ?_ ?_);(with_reducible rfl);rfl)|(with_reducible exact Qaa _ _ (by kernel_rfl))|(with_reducible refine And.intro (Qaa _ _ (by kernel_rfl)) ?_))
 repeat (first|(simp -implicitDefEqProofs only [go_sem,Nat.reduceAdd,Nat.reduceMul,Nat.reduceEqDiff,Nat.reduceLT,Nat.reduceLeDiff,reduceCtorEq,Int.reduceNeg,g0,Qmc,Qrj,Q4c,Zob,bne_self_eq_false,Bool.not_true,Bool.not_false,beq_self_eq_true])|((with_reducible refine Qab (kr) ?_ ?_ ?_);(with_reducible rfl);rfl)|((with_reducible refine Qab (ko) ?_ ?_ ?_);(with_reducible rfl);rfl)|(with_reducible exact Qaa _ _ (by kernel_rfl))|(with_reducible refine And.intro (Qaa _ _ (by kernel_rfl)) ?_))
 repeat (first|(simp -implicitDefEqProofs only [go_sem,Nat.reduceAdd,Nat.reduceMul,Nat.reduceEqDiff,Nat.reduceLT,Nat.reduceLeDiff,reduceCtorEq,Int.reduceNeg,g0,Qmc,Qrj,Bool.not_true,Bool.not_false])|((with_reducible refine Qab (o1) ?_ ?_ ?_);(with_reducible rfl);rfl)|((with_reducible refine Qab (o2) ?_ ?_ ?_);(with_reducible rfl);rfl)|((with_reducible refine Qab (o3) ?_ ?_ ?_);(with_reducible rfl);rfl)|(with_reducible exact Qaa _ _ (by kernel_rfl))|(with_reducible refine And.intro (Qaa _ _ (by kernel_rfl)) ?_))
 repeat (first|(simp -implicitDefEqProofs only [go_sem,Nat.reduceAdd,Nat.reduceMul,Nat.reduceEqDiff,Nat.reduceLT,Nat.reduceLeDiff,reduceCtorEq,Int.reduceNeg,g0,Qmc,Qrj,Bool.not_true,Bool.not_false])|((with_reducible refine Qab (p1) ?_ ?_ ?_);(with_reducible rfl);rfl)|((with_reducible refine Qab (p2) ?_ ?_ ?_);(with_reducible rfl);rfl)|(with_reducible exact Qaa _ _ (by kernel_rfl))|(with_reducible refine And.intro (Qaa _ _ (by kernel_rfl)) ?_))
 repeat (first|(simp -implicitDefEqProofs only [go_sem,Nat.reduceAdd,Nat.reduceMul,Nat.reduceEqDiff,Nat.reduceLT,Nat.reduceLeDiff,reduceCtorEq,Nat.reduceBneDiff,Int.reduceLE,Int.reduceLT,Int.reduceToNat,Int.reduceNeg,g0,Qmc,Qrj,Bool.not_true,Bool.not_false,List.length_cons,List.length_nil,List.take_succ_cons,List.take_zero,List.drop_succ_cons,List.drop_zero,bl1,bl2,bne_self_eq_false])|((with_reducible refine Qab (f1) ?_ ?_ ?_);(with_reducible rfl);rfl)|((with_reducible refine Qab (s1) ?_ ?_ ?_);(with_reducible rfl);rfl)|((with_reducible refine Qab (s2) ?_ ?_ ?_);(with_reducible rfl);rfl)|((with_reducible refine Qb5 (hpathB) ?_ ?_ ?_ ?_);(with_reducible rfl);rfl;rfl)|(with_reducible exact Qaa _ _ (by kernel_rfl))|(with_reducible refine And.intro (Qaa _ _ (by kernel_rfl)) ?_))
 repeat (first|(simp -implicitDefEqProofs only [go_sem,Nat.reduceAdd,Nat.reduceEqDiff,Nat.reduceLT,reduceCtorEq,Int.reduceLT,Int.reduceNeg,g0,List.length_cons,List.length_nil,List.set_cons_zero,List.set_cons_succ,Bool.not_true,Bool.not_false])|((with_reducible refine Qab (v1) ?_ ?_ ?_);(with_reducible rfl);rfl)|((with_reducible refine Qab (v2) ?_ ?_ ?_);(with_reducible rfl);rfl)|((with_reducible refine Qab (v3) ?_ ?_ ?_);(with_reducible rfl);rfl)|(with_reducible exact Qaa _ _ (by kernel_rfl))|(with_reducible refine And.intro (Qaa _ _ (by kernel_rfl)) ?_))
 trace_state
end Go.Proofs.YtlpiamlgibomhaaGreat

namespace Go.Proofs.YtlpiamlgibomhaaGreat
open Go.Vl Go.RowKit
theorem own:ownKnob Tryz.prog.godebug=none:=by kernel_rfl
theorem Zjc:laidOutB Tryz.prog=true:=by kernel_rfl
theorem Zbx {k:IntKind} {c:List PV} (h:Qcm (.int k) c): ∃n:Int,TT.mk (.int k) c= .int k n∧(Lit.int k n).wf=true:=by
 simp only [Qcm]at h
 obtain⟨x,rfl,hx⟩:=h
 exact⟨x,rfl,hx⟩
theorem Qnc {n:Int} (h:(Lit.int .i64 n).wf=true): -9223372036854775808≤n∧n≤9223372036854775807:=by
 have:=h
 simp [Lit.wf,IntKind.min,IntKind.max,IntKind.signed,IntKind.bits]at this
 omega
theorem Zby {c:List PV} (h:Qcm (.int .i64) c): ∃n:Int,TT.mk (.int .i64) c= .int .i64 n∧ -9223372036854775808≤n∧n≤9223372036854775807:=by
 obtain⟨n,e,w⟩:=Zbx h
 exact⟨n,e,Qnc w⟩
end Go.Proofs.YtlpiamlgibomhaaGreat

namespace Go.Proofs.YtlpiamlgibomhaaGreat
open Go.Vl Go.RowKit Go.Dg
def Zjd (s:Sg):Prop:=i64 s.f∧i64 s.t∧i64 s.o∧ ∀c∈s.ax,(∀x∈c,i64 x)∧c.length≤maxLen
theorem Zmh {s:Sg} (h:Zjd s) (hl: ∀c∈s.ax,c.length≤1000):okSg s:=⟨h.1,h.2.1,h.2.2.1,fun c hc=>(h.2.2.2 c hc).1,hl⟩
def segT:TT:= .agg [.int .i64,.int .i64,.int .i64,.slc (.int .i64),.slc (.int .i64),.slc (.int .i64)]
theorem Q3y {n:Int} (h:(Lit.int .i64 n).wf=true):i64 n:=Qnc h
theorem Qh7: ∀ess:List (List PV),(∀c∈ess,Qcm (.int .i64) c)→ ∃l:List Int,ess.map (TT.mk (.int .i64))=l.map (PV.int .i64)∧l.length=ess.length∧ ∀x∈l,i64 x
 | [],_=>⟨[],rfl,rfl,fun _ h=>nomatch h⟩
 |c::cs,h=>by
  obtain⟨n,e,b⟩:=Zby (h c (by simp))
  obtain⟨l,hl,hn,hx⟩:=Qh7 cs (fun c hc=>h c (by simp [hc]))
  refine⟨n::l,by simp [e,hl],by simp [hn],fun x hx'=> ?_⟩
  cases hx' with
  |head=>exact b
  |tail _ h=>exact hx x h
theorem Zbz {c:List PV} (h:Qcm segT c): ∃s:Sg,segT.mk c=sgPV s∧Zjd s:=by
 simp only [segT,Qcm,Qgj]at h
 obtain⟨_,_,rfl,⟨f,rfl,hf⟩,_,_,rfl,⟨t,rfl,ht⟩,_,_,rfl,⟨o,rfl,ho⟩,_,_,rfl,⟨ex,rfl,mx,hx⟩,_,_,rfl,⟨ey,rfl,my,hy⟩,_,_,rfl,⟨ez,rfl,mz,hz⟩,rfl⟩:=h
 obtain⟨lx,e1,n1,b1⟩:=Qh7 ex (fun c hc=>by have:=hx c hc;simpa only [Qcm]using this)
 obtain⟨ly,e2,n2,b2⟩:=Qh7 ey (fun c hc=>by have:=hy c hc;simpa only [Qcm]using this)
 obtain⟨lz,e3,n3,b3⟩:=Qh7 ez (fun c hc=>by have:=hz c hc;simpa only [Qcm]using this)
 refine⟨⟨f,t,o,lx,ly,lz⟩,?_,Q3y hf,Q3y ht,Q3y ho,?_⟩
 ·show PV.agg [.int .i64 f,.int .i64 t,.int .i64 o,.slc (ex.map (TT.mk (.int .i64))),.slc (ey.map (TT.mk (.int .i64))),.slc (ez.map (TT.mk (.int .i64)))]=_
  rw [e1,e2,e3];rfl
 ·intro c hc
  simp only [Sg.ax,List.mem_cons,List.not_mem_nil,or_false]at hc
  rcases hc with rfl|rfl|rfl
  ·exact⟨b1,by omega⟩
  ·exact⟨b2,by omega⟩
  ·exact⟨b3,by omega⟩
def Zje:Value:= .agg #[.int .i64 0,.int .i64 0,.int .i64 0,.slice none 0 0,.slice none 0 0,.slice none 0 0]
end Go.Proofs.YtlpiamlgibomhaaGreat

namespace Go.Proofs.YtlpiamlgibomhaaGreat
open Go.Vl Go.RowKit Go.Dg
theorem Qmm (s:Sg) (hr:Zjd s):Qag Tryz.prog 3 [sgPV s] (.bool true):=by
 have hk:=Qxt
 have hf:=Znn [s] 1 (by decide) (by unfold maxLen;simp)
 have e:Qaw [s]= .slc [sgPV s]:=rfl
 rw [e]at hf
 cases hF:fewB [s] 1 with
 |false=>
  rw [hF]at hf
  unfold sgPV at hf ⊢
  refine Qac (tb:=[]) 16 [.tmp 2] [0,1,2,6] mixed Tryz.func3 rfl (by kernel_rfl) (by kernel_rfl) (by kernel_rfl) (by kernel_rfl) ?_
  repeat (first|(simp -implicitDefEqProofs only [go_sem,Nat.reduceAdd,Nat.reduceMul,Nat.reduceEqDiff,Nat.reduceLT,Nat.reduceLeDiff,reduceCtorEq,Bool.not_false])|((with_reducible refine Qab (hf) ?_ ?_ ?_);(with_reducible rfl);rfl)|((with_reducible refine Qab (hk) ?_ ?_ ?_);(with_reducible rfl);rfl)|(with_reducible exact Qaa _ _ (by kernel_rfl))|(with_reducible refine And.intro (Qaa _ _ (by kernel_rfl)) ?_))
 |true=>
  rw [hF]at hf
  have hs:okSg s:=Zmh hr (fun c hc=>by have:=(Qxl hF).2 s (by simp) c hc;omega)
  have v1:=Qon s hs
  have v2:=Q33 s hs
  unfold sgPV at hf v1 v2 ⊢
  generalize Qa2 s=b at*
  refine Qac (tb:=[]) 16 [.tmp 2] [0,1,2,6] mixed Tryz.func3 rfl (by kernel_rfl) (by kernel_rfl) (by kernel_rfl) (by kernel_rfl) ?_
  repeat (first|(simp -implicitDefEqProofs only [go_sem,Nat.reduceAdd,Nat.reduceMul,Nat.reduceEqDiff,Nat.reduceLT,Nat.reduceLeDiff,reduceCtorEq,Bool.not_true,beq_self_eq_true])|((with_reducible refine Qab (hf) ?_ ?_ ?_);(with_reducible rfl);rfl)|((with_reducible refine Qab (v1) ?_ ?_ ?_);(with_reducible rfl);rfl)|((with_reducible refine Qab (v2) ?_ ?_ ?_);(with_reducible rfl);rfl)|((with_reducible refine Qab (hk) ?_ ?_ ?_);(with_reducible rfl);rfl)|(with_reducible exact Qaa _ _ (by kernel_rfl))|(with_reducible refine And.intro (Qaa _ _ (by kernel_rfl)) ?_))
end Go.Proofs.YtlpiamlgibomhaaGreat
