/-
  SM25, SM26, SM27, SM8s, SM28, SY1, SY9, SM29, SM30, SM31, Dsp, SM32, SM33, SM34 (merged for the claim).
-/
import Derived.Test.YtlpiamlgibomhaaGreatSM24
import Derived.Test.YtlpiamlgibomhaaGreatUS4
import Derived.Test.YtlpiamlgibomhaaGreatDsg
import Derived.Test.YtlpiamlgibomhaaGreatRows
import Derived.Test.YtlpiamlgibomhaaGreatUV
import Derived.Test.YtlpiamlgibomhaaGreatSM4
set_option linter.unusedSimpArgs false
set_option linter.unusedVariables false
namespace Go.Proofs.YtlpiamlgibomhaaGreat
open Go.Vl Go.RowKit Go.Dg
def revL (s:Sg):Nat→List Int:=cmpL s 1 (-1) 1
def revS (W:Int) (s:Sg):Sg:=Q0m (W-s.t) (W-s.f) (revL s) s.o
def Qvj (s:Sg):Prop:= ∀i,i<3→ ∀x∈revL s i,(x/(mdG (revL s) s.o 3:Int)).natAbs≤4611686018427387904
def revK (p:List Sg) (k:Nat):List Sg:=(List.range k).map fun j=>revS (pBeg p+pEnd p) (p.getD (p.length-1-j) sg0)
def revP (p:List Sg):List Sg:=revK p p.length
theorem Q1a (p:List Sg) (k:Nat):revK p (k+1)=revK p k++[revS (pBeg p+pEnd p) (p.getD (p.length-1-k) sg0)]:=by simp [revK,List.range_succ]
theorem Qvk (p:List Sg) (k:Nat):(revK p k).length=k:=by simp [revK]
theorem Q8g {s:Sg} (hv:Qa3 s=true):Qmy (revL s) s.o=true:=by
 obtain⟨⟨v1,v2,v3,v4,v5⟩, -, -⟩:=Qa2 hv
 refine decide_eq_true ?_
 unfold mdO
 exact Int.le_trans (Int.ediv_le_self _ (by omega)) v5
theorem Q8h:i64 1:=by unfold i64;omega
theorem Ze3:i64 (-1):=by unfold i64;omega
theorem Zg6 {s:Sg} (hs:okSg s) (hv:Qa3 s=true): ∀i,i<3→bd 12000 (revL s i)∧(revL s i).length≤6:=by
 intro i hi
 have hm:=Qlq s i hi
 obtain⟨l1,l6, -, -⟩:=Qcd ((Qa2 hv).2.1 _ hm)
 exact⟨(Qqz l6 (fun x hx=>Qav (hs.c _ hm x hx)) (Qav Q8h) (Qav Ze3) (Qav Q8h)).2,Q0z l6⟩
theorem Zmj (s:Sg) (W:Int) (hs:okSg s) (hv:Qa3 s=true) (hf:Qvj s):
  Qag Tryz.prog 78 [.int .i64 (W-s.t),.int .i64 (W-s.f),.agg [wL (revL s 0),wL (revL s 1),wL (revL s 2)],wPV s.o] (.tup [sgPV (revS W s),.bool true]):=by
 have hbd:=Zg6 hs hv
 obtain⟨⟨v1,v2,v3,v4,v5⟩, -, -⟩:=Qa2 hv
 have h:=Q00 (W-s.t) (W-s.f) (revL s) s.o 12000 (by decide) (by omega) (Qel (C:=12000) (Qav hs.o) (by decide)) (fun i hi=>(hbd i hi).1) (fun i hi=>by have:=(hbd i hi).2;omega) (fun _=>hf)
 rw [if_pos (Q8g hv)]at h
 exact h
def rvB (p:List Sg):Nat→List (Nat×Box)
 |0=>[(1000000,{els:=[.int .i64 (pBeg p)],esz:=1,ety:=3,fro:=0,live:=true,arr:=false}),(1000001,{els:=[.int .i64 (pEnd p)],esz:=1,ety:=3,fro:=0,live:=true,arr:=false}),(1000002,{els:=[.nilS],esz:=1,ety:=27,fro:=0,live:=true,arr:=false})]
 |k+1=>[(1000000,{els:=[.int .i64 (pBeg p)],esz:=1,ety:=3,fro:=0,live:=true,arr:=false}),(1000001,{els:=[.int .i64 (pEnd p)],esz:=1,ety:=3,fro:=0,live:=true,arr:=false}),(1000002,{els:=[.bs 7 6 0 (k+1)],esz:=1,ety:=27,fro:=0,live:=true,arr:=false}),(7,{els:=(revK p (k+1)).map sgPV,esz:=6,ety:=24,fro:=0,live:=true,arr:=true})]
theorem Zo9 (p:List Sg) (k:Nat): ∀b∈ [1000000,1000001,1000002],(lkp (rvB p k) b).isSome=true:=by
 cases k<;>simp [rvB,lkp]
def Qib (p:List Sg):PV:=if Qa4 p=true then .tup [Qaq (revP p),.int .i64 0]else .tup [Qaq [],.int .i64 2]
theorem Qht {p:List Sg} (hV:Qa4 p=true):0≤pBeg p∧pBeg p≤3600000∧0≤pEnd p∧pEnd p≤3600000:=by
 have h:=(Qbn hV).2.1
 have h1:p.length-1<p.length:=by omega
 have h0:0<p.length:=by omega
 obtain⟨⟨a1,a2,a3, -, -⟩, -, -⟩:=Qa2 (Qci hV _ h0)
 obtain⟨⟨b1,b2,b3, -, -⟩, -, -⟩:=Qa2 (Qci hV _ h1)
 unfold pBeg pEnd
 rw [sgD h0,sgD h1]
 omega
set_option maxHeartbeats 4000000 in
theorem Qxi (p:List Sg) (hp: ∀s∈p,okSg s) (hl:p.length≤100000) (hfit:Qa4 p=true→ ∀s∈p,Qvj s):Qag Tryz.prog 37 [Qaq p] (Qib p):=by
 have hs:=Qs6 p hp (by omega)
 unfold Qib
 unfold Qaq at hs
 cases hV:Qa4 p with
 |false=>
  rw [hV]at hs
  simp only [Bool.false_eq_true,if_false]at hs
  unfold Qaq
  refine Qac (tb:=[]) 51 [.tmp 2,.tmp 3] [0,2,3,4,5,6,7,9,10,19,22,23,24] mixed Tryz.func37 rfl (by kernel_rfl) (by kernel_rfl) (by kernel_rfl) (by kernel_rfl) ?_
  repeat (first|(simp -implicitDefEqProofs only [go_sem,Nat.reduceAdd,Nat.reduceMul,Nat.reduceEqDiff,Nat.reduceLT,Nat.reduceLeDiff,reduceCtorEq,Int.reduceNeg,Zhf,Bool.false_eq_true,if_false,List.map_nil])|((with_reducible refine Qab (hs) ?_ ?_ ?_);(with_reducible rfl);rfl)|(with_reducible exact Qaa _ _ (by kernel_rfl))|(with_reducible refine And.intro (Qaa _ _ (by kernel_rfl)) ?_))
 |true=>
  rw [hV]at hs
  simp only [if_true]at hs ⊢
  have hv:=Qjg hV
  have hft:=hfit hV
  obtain⟨e1,e2,e3,e4⟩:=Qht hV
  have h1:=Zo8 p
  have hY:=Zmi p hl
  unfold Qaq at h1 hY ⊢
  obtain⟨n,hn1⟩: ∃n,p.length=n+1:=⟨p.length-1,by have:=(Qbn hV).2.1;omega⟩
  have hlo:(Qd9 p).length=n+1:=by simp [Qd9,hn1]
  have hmin:min (Qd9 p).length (n+1+1)=n+1:=by omega
  have wab:IntKind.i64.wrap (pBeg p+pEnd p)=pBeg p+pEnd p:=Qah (by omega) (by omega)
  refine Qac (tb:=[]) 51 [.tmp 2,.tmp 3] [0,2,3,4,5,6,7,9,10,19,22,23,24] mixed Tryz.func37 rfl (by kernel_rfl) (by kernel_rfl) (by kernel_rfl) (by kernel_rfl) ?_
  repeat (first|(simp -implicitDefEqProofs only [go_sem,Nat.reduceAdd,Nat.reduceMul,Nat.reduceEqDiff,Nat.reduceLT,Nat.reduceLeDiff,reduceCtorEq,Int.reduceNeg,Qlv,Bool.false_eq_true,if_false])|((with_reducible refine Qab (hs) ?_ ?_ ?_);(with_reducible rfl);rfl)|((with_reducible refine Qab (h1) ?_ ?_ ?_);(with_reducible rfl);rfl)|(with_reducible exact Qaa _ _ (by kernel_rfl))|(with_reducible refine And.intro (Qaa _ _ (by kernel_rfl)) ?_))
  refine Qqc mixed hY rfl rfl _ rfl [(1000000,106),(1000001,107),(1000002,400)] [1000000,1000001,1000002] rfl [(4,.bp 1000000 1 0 0),(5,.bp 1000001 1 0 0),(7,.bp 1000002 1 0 0)] (rvB p) rfl rfl ?_ ?_ ?_ (n+1) .normal (fun h=>by omega) (fun k _ _=>Zo9 p k) ?_ rfl ?_
   [(400,1000002),(7,7)] [(7,.bp 400 1 0 0)] [(400,{els:=[.bs 7 6 0 (n+1)],esz:=1,ety:=27,fro:=0,live:=true,arr:=false}),(7,{els:=(revP p).map sgPV,esz:=6,ety:=24,fro:=0,live:=true,arr:=true})] rfl rfl ?_ ?_ (fun _=> ?_) (fun h=>by omega)
  ·simp [Qad,lkp,ren1,ren0,Qao]
  ·exact⟨⟨rfl,rfl,rfl,rfl,rfl,.inr ⟨rfl,_,_,rfl,rfl,rfl,rfl⟩⟩,⟨rfl,rfl,rfl,rfl,rfl,.inr ⟨rfl,_,_,rfl,rfl,rfl,rfl⟩⟩,⟨rfl,rfl,rfl,rfl,rfl,.inr ⟨rfl,_,_,rfl,rfl,rfl,rfl⟩⟩,trivial⟩
  ·simp [Qad,lkp,ren1,ren0,Qao,Qsc]
  ·intro k args h
   simp only [Qd9,List.getElem?_map,Option.map_eq_some_iff]at h
   obtain⟨x, -,rfl⟩:=h
   rfl
  ·rintro k args hka hk
   have hkl:k<n+1:=by have:=(List.getElem?_eq_some_iff.1 hka).1;omega
   have hargs:args=bwdO p k:=by
    simp only [Qd9,List.getElem?_map,List.getElem?_range (show k<p.length by omega),Option.map_some,Option.some.injEq]at hka
    exact hka.symm
   have hi:p.length-1-k<p.length:=by omega
   have hO:bwdO p k=[.int .i64 ((p.length-1-k:Nat):Int),sgPV p[p.length-1-k]]:=by unfold bwdO;rw [sgD hi]
   rw [hargs,hO]
   have hmem:=List.getElem_mem hi
   have hsn:=Q1a p k
   rw [sgD hi]at hsn
   have hok:=hp _ hmem
   have hvs:=hv _ hmem
   have f4:=Zmj p[p.length-1-k] (pBeg p+pEnd p) hok hvs (hft _ hmem)
   generalize p[p.length-1-k]=s at*
   generalize ((p.length-1-k:Nat):Int)=ix at*
   clear hO hargs hka hi hmem
   obtain⟨⟨v1,v2,v3,v4,v5⟩,hax, -⟩:=Qa2 hvs
   have w1:IntKind.i64.wrap (pBeg p+pEnd p-s.t)=pBeg p+pEnd p-s.t:=Qah (by omega) (by omega)
   have w2:IntKind.i64.wrap (pBeg p+pEnd p-s.f)=pBeg p+pEnd p-s.f:=Qah (by omega) (by omega)
   have f1:=Qnu s 1 (-1) 1 hok (fun c hc=>(Qcd (hax c hc)).2.1) Q8h Ze3 Q8h (by omega)
   have eL:cmpL s 1 (-1) 1=revL s:=rfl
   rw [eL]at f1
   have f2:=Qeu s.o hok.o.1 hok.o.2
   have hsn2:(revK p (k+1)).map sgPV=(revK p k).map sgPV++[.agg [.int .i64 (revS (pBeg p+pEnd p) s).f,.int .i64 (revS (pBeg p+pEnd p) s).t,.int .i64 (revS (pBeg p+pEnd p) s).o,.slc ((revS (pBeg p+pEnd p) s).x.map (PV.int .i64)),.slc ((revS (pBeg p+pEnd p) s).y.map (PV.int .i64)),.slc ((revS (pBeg p+pEnd p) s).z.map (PV.int .i64))]]:=by rw [hsn,List.map_append];rfl
   generalize revL s=L at*
   generalize revS (pBeg p+pEnd p) s=R at*
   unfold sgPV at f1 f4
   unfold wL at f1 f4
   have hlen:((revK p k).map sgPV).length=k:=by rw [List.length_map,Qvk]
   have hokf:=Qdg (revK p k)
   have c1:((k+1)*96≤140737488355328)=True:=eq_true (by omega)
   have c2:(k+1≤maxLen)=True:=eq_true (by unfold maxLen;omega)
   cases k with
   |zero=>
    simp only [rvB]
    have e0:(revK p 0).map sgPV=[]:=rfl
    rw [e0,List.nil_append]at hsn2
    repeat (first|(simp -implicitDefEqProofs only [go_sem,Nat.reduceAdd,Nat.reduceMul,Nat.reduceEqDiff,Nat.reduceLT,Nat.reduceLeDiff,reduceCtorEq,Int.reduceNeg,pvars,List.toList_toArray,sgPV])|(with_reducible exact Qaa _ _ (by kernel_rfl))|(with_reducible refine And.intro (Qaa _ _ (by kernel_rfl)) ?_))
    refine⟨by simp [lkp],?_⟩
    repeat (first|(simp -implicitDefEqProofs only [go_sem,Nat.reduceAdd,Nat.reduceMul,Nat.reduceEqDiff,Nat.reduceLT,Nat.reduceLeDiff,reduceCtorEq,Int.reduceNeg,wPV,wab,w1,w2])|((with_reducible refine Qab (f1) ?_ ?_ ?_);(with_reducible rfl);rfl)|((with_reducible refine Qab (f2) ?_ ?_ ?_);(with_reducible rfl);rfl)|((with_reducible refine Qab (f4) ?_ ?_ ?_);(with_reducible rfl);rfl)|(with_reducible exact Qaa _ _ (by kernel_rfl))|(with_reducible refine And.intro (Qaa _ _ (by kernel_rfl)) ?_))
    refine⟨by omega,?_⟩
    refine Qal (θ:=[(1000000,1000000),(1000001,1000001),(1000002,1000002),(7,803)]) rfl ?_ ?_
    ·simp [Qad,lkp,ren1,ren0,Qao]
    ·simp only [rvB,hsn2]
     exact⟨⟨rfl,rfl,rfl,rfl,rfl,.inr ⟨rfl,_,_,rfl,rfl,rfl,rfl⟩⟩,⟨rfl,rfl,rfl,rfl,rfl,.inr ⟨rfl,_,_,rfl,rfl,rfl,rfl⟩⟩,⟨rfl,rfl,rfl,rfl,rfl,.inr ⟨rfl,_,_,rfl,rfl,rfl,rfl⟩⟩,⟨rfl,rfl,rfl,rfl,rfl,.inl ⟨rfl,rfl⟩⟩,trivial⟩
   |succ k=>
    simp only [rvB]
    generalize (revK p (k+1)).map sgPV=T at*
    repeat (first|(simp -implicitDefEqProofs only [go_sem,Nat.reduceAdd,Nat.reduceMul,Nat.reduceEqDiff,Nat.reduceLT,Nat.reduceLeDiff,reduceCtorEq,Int.reduceNeg,pvars,List.toList_toArray,sgPV])|(with_reducible exact Qaa _ _ (by kernel_rfl))|(with_reducible refine And.intro (Qaa _ _ (by kernel_rfl)) ?_))
    refine⟨by simp [lkp],?_⟩
    repeat (first|(simp -implicitDefEqProofs only [go_sem,Nat.reduceAdd,Nat.reduceMul,Nat.reduceEqDiff,Nat.reduceLT,Nat.reduceLeDiff,reduceCtorEq,Nat.reduceBneDiff,Int.reduceNeg,wPV,wab,w1,w2,hlen,hokf,c1,c2])|((with_reducible refine Qab (f1) ?_ ?_ ?_);(with_reducible rfl);rfl)|((with_reducible refine Qab (f2) ?_ ?_ ?_);(with_reducible rfl);rfl)|((with_reducible refine Qab (f4) ?_ ?_ ?_);(with_reducible rfl);rfl)|(with_reducible exact Qaa _ _ (by kernel_rfl))|(with_reducible refine And.intro (Qaa _ _ (by kernel_rfl)) ?_))
    refine⟨by omega,?_⟩
    refine Qal (θ:=[(1000000,1000000),(1000001,1000001),(1000002,1000002),(7,803)]) rfl ?_ ?_
    ·simp [Qad,lkp,ren1,ren0,Qao]
    ·simp only [rvB,hsn2]
     exact⟨⟨rfl,rfl,rfl,rfl,rfl,.inr ⟨rfl,_,_,rfl,rfl,rfl,rfl⟩⟩,⟨rfl,rfl,rfl,rfl,rfl,.inr ⟨rfl,_,_,rfl,rfl,rfl,rfl⟩⟩,⟨rfl,rfl,rfl,rfl,rfl,.inr ⟨rfl,_,_,rfl,rfl,rfl,rfl⟩⟩,⟨rfl,rfl,rfl,rfl,rfl,.inl ⟨rfl,rfl⟩⟩,trivial⟩
  ·simp [Qad,lkp,ren1,ren0,Qao]
  ·rw [hmin]
   have e:revK p (n+1)=revP p:=by unfold revP;rw [hn1]
   simp only [rvB,e]
   exact⟨⟨rfl,rfl,rfl,rfl,rfl,.inr ⟨rfl,_,_,rfl,rfl,rfl,rfl⟩⟩,⟨rfl,rfl,rfl,rfl,rfl,.inl ⟨rfl,rfl⟩⟩,trivial⟩
  ·have b1:((revP p).map sgPV).length=n+1:=by rw [List.length_map,revP,Qvk,hn1]
   have b2:(((revP p).map sgPV).flatMap PV.cells).all PV.okCell=true:=Qdg _
   have b3:((revP p).map sgPV).take (n+1)=(revP p).map sgPV:=List.take_of_length_le (by omega)
   generalize (revP p).map sgPV=T at*
   repeat (first|(simp -implicitDefEqProofs only [go_sem,Nat.reduceAdd,Nat.reduceMul,Nat.reduceEqDiff,Nat.reduceLT,Nat.reduceLeDiff,reduceCtorEq,b1,b2,b3])|(with_reducible exact Qaa _ _ (by kernel_rfl))|(with_reducible refine And.intro (Qaa _ _ (by kernel_rfl)) ?_))
end Go.Proofs.YtlpiamlgibomhaaGreat

namespace Go.Proofs.YtlpiamlgibomhaaGreat
open Go.Vl Go.RowKit Go.Dg
instance (x:Int):Decidable (i64 x):=by unfold i64;infer_instance
def okB (s:Sg):Bool:=decide (i64 s.f)&&(decide (i64 s.t)&&(decide (i64 s.o)&&(s.ax.all fun c=>c.all (fun x=>decide (i64 x))&&decide (c.length≤1000))))
theorem Q1b {s:Sg} (h:okB s=true):okSg s:=by
 unfold okB at h
 simp only [Bool.and_eq_true,decide_eq_true_eq,List.all_eq_true]at h
 obtain⟨h1,h2,h3,h4⟩:=h
 exact⟨h1,h2,h3,fun c hc=>(h4 c hc).1,fun c hc=>(h4 c hc).2⟩
theorem Ze4 {p:List Sg} (h:p.all okB=true): ∀s∈p,okSg s:=fun s hs=>Q1b (List.all_eq_true.1 h s hs)
def ex0:List Sg:=[⟨1000,3000,1,[100,20],[0,0,8],[50]⟩]
def exS:List Sg:=[⟨3000,4000,1,[120],[8],[50]⟩]
theorem Qic: ∀s∈ex0,okSg s:=Ze4 (by decide+kernel)
theorem Zmk: ∀s∈exS,okSg s:=Ze4 (by decide+kernel)
theorem Qco:Qa4 ex0=true:=by decide+kernel
theorem Zml {n:Nat} (h0:0<n) (h:n<256):digs 256 n=[n]:=by
 rw [digs,dif_neg (by omega),Nat.mod_eq_of_lt h,Nat.div_eq_of_lt h,Qax]
theorem mB_1 {n:Nat} (h0:0<n) (h:n<256):mB (n:Int)=⟨#[UInt8.ofNat n]⟩:=by
 unfold mB magL
 rw [Int.natAbs_natCast,Zml h0 h];rfl
theorem at0:atPV ex0 2000= .tup [vPV 110 2 50,.int .i64 0]:=by
 have h1:lasts ex0 2000=true:=by decide+kernel
 have e1:rnd (exQ ex0 2000 0) (exO ex0 2000)=110:=by decide+kernel
 have e2:rnd (exQ ex0 2000 1) (exO ex0 2000)=2:=by decide+kernel
 have e3:rnd (exQ ex0 2000 2) (exO ex0 2000)=50:=by decide+kernel
 unfold atPV
 rw [if_pos Qco,if_pos h1,e1,e2,e3]
theorem at1:atPV ex0 1500= .tup [vPV 105 1 50,.int .i64 0]:=by
 have h1:lasts ex0 1500=true:=by decide+kernel
 have e1:rnd (exQ ex0 1500 0) (exO ex0 1500)=105:=by decide+kernel
 have e2:rnd (exQ ex0 1500 1) (exO ex0 1500)=1:=by decide+kernel
 have e3:rnd (exQ ex0 1500 2) (exO ex0 1500)=50:=by decide+kernel
 unfold atPV
 rw [if_pos Qco,if_pos h1,e1,e2,e3]
theorem at2:atPV ex0 1250= .tup [vPV 103 0 50,.int .i64 0]:=by
 have h1:lasts ex0 1250=true:=by decide+kernel
 have e1:rnd (exQ ex0 1250 0) (exO ex0 1250)=103:=by decide+kernel
 have e2:rnd (exQ ex0 1250 1) (exO ex0 1250)=0:=by decide+kernel
 have e3:rnd (exQ ex0 1250 2) (exO ex0 1250)=50:=by decide+kernel
 unfold atPV
 rw [if_pos Qco,if_pos h1,e1,e2,e3]
theorem ex_q:exQ ex0 1500 0=210∧exQ ex0 1500 1=1∧exQ ex0 1500 2=100∧exO ex0 1500=2∧lasts ex0 1500=true:=by decide+kernel
theorem Zg7:Qnv ex0 2000 3000= .tup [Qaq [⟨2000,3000,1,[110,10],[2,4,2],[50]⟩],.int .i64 0]:=by
 have h1:pBeg ex0≤2000∧(2000:Int)<3000∧3000≤pEnd ex0:=by decide+kernel
 have h2:(spans ex0 2000 3000).all spF=true:=by decide+kernel
 have h3:(spans ex0 2000 3000).map spS=[⟨2000,3000,1,[110,10],[2,4,2],[50]⟩]:=by kernel_rfl
 unfold Qnv Qo9
 rw [if_pos Qco,if_pos h1,if_pos h2,h3]
theorem Zg8:Qnv ex0 1000 1500= .tup [Qaq [⟨1000,1500,2,[200,10],[0,0,1],[100]⟩],.int .i64 0]:=by
 have h1:pBeg ex0≤1000∧(1000:Int)<1500∧1500≤pEnd ex0:=by decide+kernel
 have h2:(spans ex0 1000 1500).all spF=true:=by decide+kernel
 have h3:(spans ex0 1000 1500).map spS=[⟨1000,1500,2,[200,10],[0,0,1],[100]⟩]:=by kernel_rfl
 unfold Qnv Qo9
 rw [if_pos Qco,if_pos h1,if_pos h2,h3]
theorem Zmm:Qib ex0= .tup [Qaq [⟨1000,3000,1,[120, -20],[8, -16,8],[50]⟩],.int .i64 0]:=by
 have h3:revP ex0=[⟨1000,3000,1,[120, -20],[8, -16,8],[50]⟩]:=by kernel_rfl
 unfold Qib
 rw [if_pos Qco,h3]
theorem Zmn: ∀s∈ex0,Qvj s:=by unfold Qvj;decide+kernel
theorem Zg9:Qq2 ex0 ex0= .tup [Qaq [],.int .i64 10]:=by
 have h: ¬Qge ex0 ex0=true:=by decide+kernel
 unfold Qq2
 rw [if_pos ⟨Qco,Qco⟩,if_neg h]
theorem Zha:Qq2 ex0 exS= .tup [Qaq (ex0++exS),.int .i64 0]:=by
 have h:Qge ex0 exS=true:=by decide+kernel
 have h2:Qa4 exS=true:=by decide+kernel
 unfold Qq2
 rw [if_pos ⟨Qco,h2⟩,if_pos h];rfl
end Go.Proofs.YtlpiamlgibomhaaGreat

namespace Go.Proofs.YtlpiamlgibomhaaGreat
open Go.Vl Go.RowKit Go.Dg
theorem Q1c:Qag Tryz.prog 45 [] (Qaq ex0):=by
 refine Qac (tb:=[]) 6 [.tmp 0] [0] mixed Tryz.func45 rfl (by kernel_rfl) (by kernel_rfl) (by kernel_rfl) (by kernel_rfl) ?_
 repeat (first|(simp -implicitDefEqProofs only [go_sem,Nat.reduceAdd,Nat.reduceMul,Nat.reduceEqDiff,Nat.reduceLT,Nat.reduceLeDiff,reduceCtorEq]))
 rfl
theorem Q8i:Qc0 Tryz.prog 45 [] [] (.bs 104 6 0 1) [(104,{els:=ex0.map sgPV,esz:=6,ety:=24,fro:=0,live:=true,arr:=true})]:=by
 refine Qcr (tb:=[]) 6 [.tmp 0] [0] mixed Tryz.func45 rfl (by kernel_rfl) (by kernel_rfl) (by kernel_rfl) (by kernel_rfl) (by rfl) ?_
 repeat (first|(simp -implicitDefEqProofs only [go_sem,Nat.reduceAdd,Nat.reduceMul,Nat.reduceEqDiff,Nat.reduceLT,Nat.reduceLeDiff,reduceCtorEq]))
 refine Qby (.inl rfl) ?_
 simp -implicitDefEqProofs only [go_sem]
 refine Qal (θ:=[(104,104)]) rfl ?_ ?_
 ·simp [Qad,lkp,ren1,ren0,Qao]
 ·exact⟨⟨rfl,rfl,rfl,rfl,rfl,.inl ⟨rfl,rfl⟩⟩,trivial⟩
theorem Zhb (t x y z:Int) (ht:i64 t) (h:atPV ex0 t= .tup [vPV x y z,.int .i64 0]):Qag Tryz.prog 44 [.int .i64 t,.agg [.int .i64 x,.int .i64 y,.int .i64 z]] (.bool true):=by
 have h1:=Q1c
 have h2:=Zo6 ex0 t Qic (by decide) ht
 rw [h]at h2
 unfold Qaq at h1 h2
 unfold vPV at h2
 generalize ex0.map sgPV=E at*
 refine Qac (tb:=[]) 20 [.tmp 4] [0,1,3,4,5,6] mixed Tryz.func44 rfl (by kernel_rfl) (by kernel_rfl) (by kernel_rfl) (by kernel_rfl) ?_
 repeat (first|(simp -implicitDefEqProofs only [go_sem,Nat.reduceAdd,Nat.reduceMul,Nat.reduceEqDiff,Nat.reduceLT,Nat.reduceLeDiff,reduceCtorEq,beq_self_eq_true,Qlw])|((with_reducible refine Qab (h1) ?_ ?_ ?_);(with_reducible rfl);rfl)|((with_reducible refine Qab (h2) ?_ ?_ ?_);(with_reducible rfl);rfl))
theorem Zmo (s w:Sg) (hs: ∀c∈s.ax,c.length≤1000000000) (hw: ∀c∈w.ax,c.length≤1000000000):Qag Tryz.prog 46 [.slc [sgPV s],.int .i64 0,sgPV w] (.bool (Qjd s w)):=by
 have h:=Qid s w hs hw
 unfold sgPV Qan at h ⊢
 generalize Qjd s w=b at*
 have g0: ∀v:PV,[v][0]? =some v:=fun _=>rfl
 refine Qac (tb:=[]) 21 [.tmp 6] [0,1,2,5,6] mixed Tryz.func46 rfl (by kernel_rfl) (by kernel_rfl) (by kernel_rfl) (by kernel_rfl) ?_
 repeat (first|(simp -implicitDefEqProofs only [go_sem,Nat.reduceAdd,Nat.reduceMul,Nat.reduceEqDiff,Nat.reduceLT,Nat.reduceLeDiff,reduceCtorEq,Qlw,g0,List.length_cons,List.length_nil])|((with_reducible refine Qab (h) ?_ ?_ ?_);(with_reducible rfl);rfl)|(with_reducible exact Qaa _ _ (by kernel_rfl))|(with_reducible refine And.intro (Qaa _ _ (by kernel_rfl)) ?_))
theorem Qq3 (P:List PV) (e w:Int):Qag Tryz.prog 25 [.slc P,.int .i64 e,.int .i64 w] (.bool ((e==w)&&((P.length:Int)==0))):=by
 refine Qac (tb:=[]) 15 [.tmp 6] [0,1,2,6] mixed Tryz.func25 rfl (by kernel_rfl) (by kernel_rfl) (by kernel_rfl) (by kernel_rfl) ?_
 cases h:(e==w)with
 |true=>repeat (first|(simp -implicitDefEqProofs only [go_sem,Nat.reduceAdd,Nat.reduceMul,Nat.reduceEqDiff,Nat.reduceLT,Nat.reduceLeDiff,reduceCtorEq,h,Bool.true_and]))
 |false=>repeat (first|(simp -implicitDefEqProofs only [go_sem,Nat.reduceAdd,Nat.reduceMul,Nat.reduceEqDiff,Nat.reduceLT,Nat.reduceLeDiff,reduceCtorEq,h,Bool.false_and]))
end Go.Proofs.YtlpiamlgibomhaaGreat

namespace Go.Proofs.YtlpiamlgibomhaaGreat
open Go.Vl Go.RowKit Go.Dg
theorem Qhu (a b:List Sg) (ha:lenP a) (hb:lenP b):Qag Tryz.prog 24 [Qaq a,Qaq b] (.bool (Qsv a b)):=by
 have la:=ha.1
 have lb:=hb.1
 by_cases hl:a.length=b.length
 case neg=>
  have n1:((a.length:Int) != (b.length:Int))=true:=by simp only [bne_iff_ne,ne_eq];omega
  unfold Qsv
  rw [decide_eq_false hl,Bool.false_and]
  refine Qac (tb:=[]) 27 [.tmp 4] [0,1,4,5,10,14,26] mixed Tryz.func24 rfl (by kernel_rfl) (by kernel_rfl) (by kernel_rfl) (by kernel_rfl) ?_
  repeat (first|(simp -implicitDefEqProofs only [go_sem,Nat.reduceAdd,Nat.reduceMul,Nat.reduceEqDiff,Nat.reduceLT,Nat.reduceLeDiff,reduceCtorEq,List.length_map,n1])|(with_reducible exact Qaa _ _ (by kernel_rfl))|(with_reducible refine And.intro (Qaa _ _ (by kernel_rfl)) ?_))
 have n1:((a.length:Int) != (b.length:Int))=false:=by rw [hl];simp
 have e0:Qsv a b=Qf9 a b a.length:=by unfold Qsv;rw [decide_eq_true hl,Bool.true_and]
 rw [e0]
 refine Qac (tb:=[]) 27 [.tmp 4] [0,1,4,5,10,14,26] mixed Tryz.func24 rfl (by kernel_rfl) (by kernel_rfl) (by kernel_rfl) (by kernel_rfl) ?_
 repeat (first|(simp -implicitDefEqProofs only [go_sem,Nat.reduceAdd,Nat.reduceMul,Nat.reduceEqDiff,Nat.reduceLT,Nat.reduceLeDiff,reduceCtorEq,List.length_map,n1])|(with_reducible exact Qaa _ _ (by kernel_rfl))|(with_reducible refine And.intro (Qaa _ _ (by kernel_rfl)) ?_))
 have z0:0≤a.length∧Qf9 a b 0=true:=⟨Nat.zero_le _,rfl⟩
 refine Qat mixed (fun i:{i:Nat // i≤a.length∧Qf9 a b i=true}=>St.of [(0,Qaq a),(1,Qaq b),(4,.bool false),(5,.int .i64 (i.1:Int))] []) (fun i=>a.length-i.1) ⟨0,z0⟩ ?_ ?_
 ·exact Qa1 (by simp [Qad,lkp,ren1,ren0,Qaq])
 ·rintro⟨i,hi,hall⟩
  by_cases hA:i<a.length
  ·have hA':=ltT hA
   have n0:=nnT i
   have hB:i<b.length:=by omega
   have g1:=Qb7 a i hA
   have g2:=Qb7 b i hB
   have hwk:=Qai (a:=i) (by omega)
   have hs:=Qid a[i] b[i] (ha.2 _ (List.getElem_mem hA)) (hb.2 _ (List.getElem_mem hB))
   have es:Qjd (a.getD i sg0) (b.getD i sg0)=Qjd a[i] b[i]:=by rw [sgD hA,sgD hB]
   unfold sgPV Qan at hs
   cases hx:Qjd a[i] b[i]with
   |true=>
    rw [hx]at hs
    have hn:Qf9 a b (i+1)=true:=by rw [Qsw,hall,es,hx];rfl
    repeat (first|(simp -implicitDefEqProofs only [go_sem,Nat.reduceAdd,Nat.reduceMul,Nat.reduceEqDiff,Nat.reduceLT,Nat.reduceLeDiff,reduceCtorEq,hA',n0,g1,g2,hwk,Int.toNat_natCast,List.length_map])|((with_reducible refine Qab (hs) ?_ ?_ ?_);(with_reducible rfl);rfl)|(with_reducible exact Qaa _ _ (by kernel_rfl))|(with_reducible refine And.intro (Qaa _ _ (by kernel_rfl)) ?_))
    refine⟨⟨i+1,hA,hn⟩,by simp only;omega,Qa1 (by simp [Qad,lkp,ren1,ren0,Qaq])⟩
   |false=>
    rw [hx]at hs
    rw [Qw6 (es.trans hx) hA]
    repeat (first|(simp -implicitDefEqProofs only [go_sem,Nat.reduceAdd,Nat.reduceMul,Nat.reduceEqDiff,Nat.reduceLT,Nat.reduceLeDiff,reduceCtorEq,hA',n0,g1,g2,Int.toNat_natCast,List.length_map])|((with_reducible refine Qab (hs) ?_ ?_ ?_);(with_reducible rfl);rfl)|(with_reducible exact Qaa _ _ (by kernel_rfl))|(with_reducible refine And.intro (Qaa _ _ (by kernel_rfl)) ?_))
  ·have hA':=ltF hA
   obtain rfl:i=a.length:=by omega
   repeat (first|(simp -implicitDefEqProofs only [go_sem,Nat.reduceAdd,Nat.reduceMul,Nat.reduceEqDiff,Nat.reduceLT,Nat.reduceLeDiff,reduceCtorEq,hA',hall,List.length_map])|(with_reducible exact Qaa _ _ (by kernel_rfl))|(with_reducible refine And.intro (Qaa _ _ (by kernel_rfl)) ?_))
end Go.Proofs.YtlpiamlgibomhaaGreat

namespace Go.Proofs.YtlpiamlgibomhaaGreat
open Go.Vl Go.RowKit Go.Dg
theorem Zpa (b:ByteArray):(b != b)=false:=by show(!(b==b))=false;rw [Q1q];rfl
theorem Qs3 {s:Sg} (h:(s.ax.all fun c=>Nat.ble c.length 1000)=true): ∀c∈s.ax,c.length≤1000000000:=fun c hc=>by
 have:=Nat.le_of_ble_eq_true (List.all_eq_true.1 h c hc);omega
theorem b210:mB 210=⟨#[210]⟩:=mB_1 (n:=210) (by decide) (by decide)
theorem b1:mB 1=⟨#[1]⟩:=mB_1 (n:=1) (by decide) (by decide)
theorem b100:mB 100=⟨#[100]⟩:=mB_1 (n:=100) (by decide) (by decide)
theorem b2:mB 2=⟨#[2]⟩:=mB_1 (n:=2) (by decide) (by decide)
def exPl:PV:= .agg [.bool false,.str ⟨#[210]⟩,.bool false,.str ⟨#[1]⟩,.bool false,.str ⟨#[100]⟩,.bool false,.str ⟨#[2]⟩]
theorem Qvl:Qae 210 1 100 2=exPl:=by unfold Qae;rw [b210,b1,b100,b2];rfl
theorem kexact:Qag Tryz.prog 15 [Qaq ex0,.int .i64 1500] (.tup [exPl,.int .i64 0]):=by
 have h:=Qvs ex0 1500 Qic (by decide) (by unfold i64;decide)
 obtain⟨q1,q2,q3,q4,q5⟩:=ex_q
 unfold Qpf at h
 rwa [if_pos Qco,if_pos q5,q1,q2,q3,q4,Qvl]at h
theorem krexact:Qag Tryz.prog 19 [Qaq ex0,.int .i64 1500] (Qdl [210,1,100] 2):=by
 obtain⟨q1,q2,q3,q4,q5⟩:=ex_q
 have h:=Qph ex0 1500 Qic (by decide) (by unfold i64;decide) Qco q5
 rwa [q1,q2,q3,q4]at h
theorem kout:Qag Tryz.prog 20 [Qdl [210,1,100] 2] exPl:=by
 have h:=Q1m 210 1 100 2 10 (by decide) (by decide) (by decide) (by decide) (by decide)
 rwa [Qvl]at h
theorem Zpb:Qag Tryz.prog 23 [Qaq ex0,.int .i64 2000,.int .i64 3000] (.tup [Qaq [⟨2000,3000,1,[110,10],[2,4,2],[50]⟩],.int .i64 0]):=by
 have h:=Ze2 ex0 2000 3000 Qic (by decide)
 rwa [Zg7]at h
theorem Zpc:Qag Tryz.prog 23 [Qaq ex0,.int .i64 1000,.int .i64 1500] (.tup [Qaq [⟨1000,1500,2,[200,10],[0,0,1],[100]⟩],.int .i64 0]):=by
 have h:=Ze2 ex0 1000 1500 Qic (by decide)
 rwa [Zg8]at h
theorem krev:Qag Tryz.prog 37 [Qaq ex0] (.tup [Qaq [⟨1000,3000,1,[120, -20],[8, -16,8],[50]⟩],.int .i64 0]):=by
 have h:=Qxi ex0 Qic (by decide) (fun _=>Zmn)
 rwa [Zmm]at h
theorem Zpd:Qag Tryz.prog 27 [Qaq ex0,Qaq ex0] (.tup [Qaq [],.int .i64 10]):=by
 have h:=Qia ex0 ex0 Qic Qic (by decide) (by decide)
 rwa [Zg9]at h
theorem Zpe:Qag Tryz.prog 27 [Qaq ex0,Qaq exS] (.tup [Qaq (ex0++exS),.int .i64 0]):=by
 have h:=Qia ex0 exS Qic Zmk (by decide) (by decide)
 rwa [Zha]at h
theorem kone (s:Sg) (h:(s.ax.all fun c=>Nat.ble c.length 1000)=true) (hs:Qjd s s=true):Qag Tryz.prog 46 [.slc [sgPV s],.int .i64 0,sgPV s] (.bool true):=by
 have:=Zmo s s (Qs3 h) (Qs3 h)
 rwa [hs]at this
theorem Ze5 (p:List Sg) (h:p=ex0∨p=exS):Qag Tryz.prog 24 [Qaq p,Qaq p] (.bool true):=by
 have hl:lenP p:=by rcases h with rfl|rfl<;>exact⟨by decide,fun s hs=>by rw [List.mem_singleton.1 hs];exact Qs3 rfl⟩
 have h1:=Qhu p p hl hl
 have h2:Qsv p p=true:=by rcases h with rfl|rfl<;>decide+kernel
 rwa [h2]at h1
theorem kvalid (s:Sg) (b:Bool) (h:okB s=true) (h2:Qa3 s=b):Qag Tryz.prog 13 [sgPV s] (.bool b):=by
 have:=Qvm s (Q1b h)
 rwa [h2]at this
set_option maxHeartbeats 8000000 in
set_option maxRecDepth 100000 in
theorem Qxj:Qag Tryz.prog 12 [] (.bool true):=by
 have hpath:=Q1c
 have hpathB:=Q8i
 have a0:=Zhb 2000 110 2 50 (by unfold i64;decide) at0
 have a1:=Zhb 1500 105 1 50 (by unfold i64;decide) at1
 have a2:=Zhb 1250 103 0 50 (by unfold i64;decide) at2
 have ke:=kexact
 have kr:=krexact
 have ko:=kout
 have c1:=Zpb
 have c2:=Zpc
 have r1:=krev
 have o1:=kone ⟨2000,3000,1,[110,10],[2,4,2],[50]⟩ rfl (by decide+kernel)
 have o2:=kone ⟨1000,1500,2,[200,10],[0,0,1],[100]⟩ rfl (by decide+kernel)
 have o3:=kone ⟨1000,3000,1,[120, -20],[8, -16,8],[50]⟩ rfl (by decide+kernel)
 have p1:=Zpd
 have p2:=Zpe
 have f1:=Qq3 [] 10 10
 have s1:=Ze5 ex0 (.inl rfl)
 have s2:=Ze5 exS (.inr rfl)
 have v1:=kvalid ⟨1000,3000,1,[100,20],[0,0,8],[50,0]⟩ false (by decide+kernel) (by decide+kernel)
 have v2:=kvalid ⟨1000,3000,2,[200],[2],[4]⟩ false (by decide+kernel) (by decide+kernel)
 have v3:=kvalid ⟨1000,3000,1,[100,20],[0,0,8],[50]⟩ true (by decide+kernel) (by decide+kernel)
 have fb:((10:Int)==10&&(([]:List PV).length:Int)==0)=true:=rfl
 rw [fb]at f1
 obtain⟨R1,R2,R3,hR⟩: ∃R1 R2 R3,Qdl [210,1,100] 2= .agg [.slc R1,.bool R2,.slc R3]:=⟨_,_,_,rfl⟩
 rw [hR]at kr ko
 clear hR
 unfold exPl at ke ko
 simp only [Qaq,ex0,exS,sgPV,Qan,List.map_cons,List.map_nil,List.cons_append,List.nil_append]at hpath hpathB ke kr c1 c2 r1 o1 o2 o3 p1 p2 s1 s2 v1 v2 v3
 have g0: ∀v:PV,[v][0]? =some v:=fun _=>rfl
 have bl1:Nat.blt 1700 1000000=true:=rfl
 have bl2:Nat.blt 1701 1000000=true:=rfl

 refine Qac (tb:=[(1700,[],[(104,1700)]),(1701,[],[(104,1701)])]) 193 [.tmp 0] [0,1,2,3,4,5,6,7,8,9,10,11,12,13,14,27,81,109,153] mixed Tryz.func12 rfl (by kernel_rfl) (by kernel_rfl) (by kernel_rfl) (by kernel_rfl) ?_
 repeat (first|(simp -implicitDefEqProofs only [go_sem,Nat.reduceAdd,Nat.reduceMul,Nat.reduceEqDiff,Nat.reduceLT,Nat.reduceLeDiff,reduceCtorEq,Int.reduceNeg,g0,Qlv,Qlw,Bool.not_true,Bool.not_false])|((with_reducible refine Qab (a0) ?_ ?_ ?_);(with_reducible rfl);rfl)|((with_reducible refine Qab (a1) ?_ ?_ ?_);(with_reducible rfl);rfl)|((with_reducible refine Qab (a2) ?_ ?_ ?_);(with_reducible rfl);rfl)|((with_reducible refine Qab (hpath) ?_ ?_ ?_);(with_reducible rfl);rfl)|((with_reducible refine Qab (ke) ?_ ?_ ?_);(with_reducible rfl);rfl)|((with_reducible refine Qab (c1) ?_ ?_ ?_);(with_reducible rfl);rfl)|((with_reducible refine Qab (c2) ?_ ?_ ?_);(with_reducible rfl);rfl)|((with_reducible refine Qab (r1) ?_ ?_ ?_);(with_reducible rfl);rfl)|(with_reducible exact Qaa _ _ (by kernel_rfl))|(with_reducible refine And.intro (Qaa _ _ (by kernel_rfl)) ?_))
 repeat (first|(simp -implicitDefEqProofs only [go_sem,Nat.reduceAdd,Nat.reduceMul,Nat.reduceEqDiff,Nat.reduceLT,Nat.reduceLeDiff,reduceCtorEq,Int.reduceNeg,g0,Qlv,Qlw,Q1q,Zpa,bne_self_eq_false,Bool.not_true,Bool.not_false,beq_self_eq_true])|((with_reducible refine Qab (kr) ?_ ?_ ?_);(with_reducible rfl);rfl)|((with_reducible refine Qab (ko) ?_ ?_ ?_);(with_reducible rfl);rfl)|(with_reducible exact Qaa _ _ (by kernel_rfl))|(with_reducible refine And.intro (Qaa _ _ (by kernel_rfl)) ?_))
 repeat (first|(simp -implicitDefEqProofs only [go_sem,Nat.reduceAdd,Nat.reduceMul,Nat.reduceEqDiff,Nat.reduceLT,Nat.reduceLeDiff,reduceCtorEq,Int.reduceNeg,g0,Qlv,Qlw,Bool.not_true,Bool.not_false])|((with_reducible refine Qab (o1) ?_ ?_ ?_);(with_reducible rfl);rfl)|((with_reducible refine Qab (o2) ?_ ?_ ?_);(with_reducible rfl);rfl)|((with_reducible refine Qab (o3) ?_ ?_ ?_);(with_reducible rfl);rfl)|(with_reducible exact Qaa _ _ (by kernel_rfl))|(with_reducible refine And.intro (Qaa _ _ (by kernel_rfl)) ?_))
 repeat (first|(simp -implicitDefEqProofs only [go_sem,Nat.reduceAdd,Nat.reduceMul,Nat.reduceEqDiff,Nat.reduceLT,Nat.reduceLeDiff,reduceCtorEq,Int.reduceNeg,g0,Qlv,Qlw,Bool.not_true,Bool.not_false])|((with_reducible refine Qab (p1) ?_ ?_ ?_);(with_reducible rfl);rfl)|((with_reducible refine Qab (p2) ?_ ?_ ?_);(with_reducible rfl);rfl)|(with_reducible exact Qaa _ _ (by kernel_rfl))|(with_reducible refine And.intro (Qaa _ _ (by kernel_rfl)) ?_))
 repeat (first|(simp -implicitDefEqProofs only [go_sem,Nat.reduceAdd,Nat.reduceMul,Nat.reduceEqDiff,Nat.reduceLT,Nat.reduceLeDiff,reduceCtorEq,Nat.reduceBneDiff,Int.reduceLE,Int.reduceLT,Int.reduceToNat,Int.reduceNeg,g0,Qlv,Qlw,Bool.not_true,Bool.not_false,List.length_cons,List.length_nil,List.take_succ_cons,List.take_zero,List.drop_succ_cons,List.drop_zero,bl1,bl2,bne_self_eq_false])|((with_reducible refine Qab (f1) ?_ ?_ ?_);(with_reducible rfl);rfl)|((with_reducible refine Qab (s1) ?_ ?_ ?_);(with_reducible rfl);rfl)|((with_reducible refine Qab (s2) ?_ ?_ ?_);(with_reducible rfl);rfl)|((with_reducible refine Qbq (hpathB) ?_ ?_ ?_ ?_);(with_reducible rfl);rfl;rfl)|(with_reducible exact Qaa _ _ (by kernel_rfl))|(with_reducible refine And.intro (Qaa _ _ (by kernel_rfl)) ?_))
 repeat (first|(simp -implicitDefEqProofs only [go_sem,Nat.reduceAdd,Nat.reduceEqDiff,Nat.reduceLT,reduceCtorEq,Int.reduceLT,Int.reduceNeg,g0,List.length_cons,List.length_nil,List.set_cons_zero,List.set_cons_succ,Bool.not_true,Bool.not_false])|((with_reducible refine Qab (v1) ?_ ?_ ?_);(with_reducible rfl);rfl)|((with_reducible refine Qab (v2) ?_ ?_ ?_);(with_reducible rfl);rfl)|((with_reducible refine Qab (v3) ?_ ?_ ?_);(with_reducible rfl);rfl)|(with_reducible exact Qaa _ _ (by kernel_rfl))|(with_reducible refine And.intro (Qaa _ _ (by kernel_rfl)) ?_))
 trace_state
end Go.Proofs.YtlpiamlgibomhaaGreat

namespace Go.Proofs.YtlpiamlgibomhaaGreat
open Go.Vl Go.RowKit
theorem own:ownKnob Tryz.prog.godebug=none:=by kernel_rfl
theorem Zk5:laidOutB Tryz.prog=true:=by kernel_rfl
theorem Zdq {k:IntKind} {c:List PV} (h:Qcj (.int k) c): ∃n:Int,TT.mk (.int k) c= .int k n∧(Lit.int k n).wf=true:=by
 simp only [Qcj]at h
 obtain⟨x,rfl,hx⟩:=h
 exact⟨x,rfl,hx⟩
theorem Qn0 {n:Int} (h:(Lit.int .i64 n).wf=true): -9223372036854775808≤n∧n≤9223372036854775807:=by
 have:=h
 simp [Lit.wf,IntKind.min,IntKind.max,IntKind.signed,IntKind.bits]at this
 omega
theorem Qv0 {c:List PV} (h:Qcj (.int .i64) c): ∃n:Int,TT.mk (.int .i64) c= .int .i64 n∧ -9223372036854775808≤n∧n≤9223372036854775807:=by
 obtain⟨n,e,w⟩:=Zdq h
 exact⟨n,e,Qn0 w⟩
end Go.Proofs.YtlpiamlgibomhaaGreat

namespace Go.Proofs.YtlpiamlgibomhaaGreat
open Go.Vl Go.RowKit Go.Dg
def Qyx (s:Sg):Prop:=i64 s.f∧i64 s.t∧i64 s.o∧ ∀c∈s.ax,(∀x∈c,i64 x)∧c.length≤maxLen
theorem Zfr {s:Sg} (h:Qyx s) (hl: ∀c∈s.ax,c.length≤1000):okSg s:=⟨h.1,h.2.1,h.2.2.1,fun c hc=>(h.2.2.2 c hc).1,hl⟩
def segT:TT:= .agg [.int .i64,.int .i64,.int .i64,.slc (.int .i64),.slc (.int .i64),.slc (.int .i64)]
theorem Q5x {n:Int} (h:(Lit.int .i64 n).wf=true):i64 n:=Qn0 h
theorem Qin: ∀ess:List (List PV),(∀c∈ess,Qcj (.int .i64) c)→ ∃l:List Int,ess.map (TT.mk (.int .i64))=l.map (PV.int .i64)∧l.length=ess.length∧ ∀x∈l,i64 x
 | [],_=>⟨[],rfl,rfl,fun _ h=>nomatch h⟩
 |c::cs,h=>by
  obtain⟨n,e,b⟩:=Qv0 (h c (by simp))
  obtain⟨l,hl,hn,hx⟩:=Qin cs (fun c hc=>h c (by simp [hc]))
  refine⟨n::l,by simp [e,hl],by simp [hn],fun x hx'=> ?_⟩
  cases hx' with
  |head=>exact b
  |tail _ h=>exact hx x h
theorem Zdr {c:List PV} (h:Qcj segT c): ∃s:Sg,segT.mk c=sgPV s∧Qyx s:=by
 simp only [segT,Qcj,Qgu]at h
 obtain⟨_,_,rfl,⟨f,rfl,hf⟩,_,_,rfl,⟨t,rfl,ht⟩,_,_,rfl,⟨o,rfl,ho⟩,_,_,rfl,⟨ex,rfl,mx,hx⟩,_,_,rfl,⟨ey,rfl,my,hy⟩,_,_,rfl,⟨ez,rfl,mz,hz⟩,rfl⟩:=h
 obtain⟨lx,e1,n1,b1⟩:=Qin ex (fun c hc=>by have:=hx c hc;simpa only [Qcj]using this)
 obtain⟨ly,e2,n2,b2⟩:=Qin ey (fun c hc=>by have:=hy c hc;simpa only [Qcj]using this)
 obtain⟨lz,e3,n3,b3⟩:=Qin ez (fun c hc=>by have:=hz c hc;simpa only [Qcj]using this)
 refine⟨⟨f,t,o,lx,ly,lz⟩,?_,Q5x hf,Q5x ht,Q5x ho,?_⟩
 ·show PV.agg [.int .i64 f,.int .i64 t,.int .i64 o,.slc (ex.map (TT.mk (.int .i64))),.slc (ey.map (TT.mk (.int .i64))),.slc (ez.map (TT.mk (.int .i64)))]=_
  rw [e1,e2,e3];rfl
 ·intro c hc
  simp only [Sg.ax,List.mem_cons,List.not_mem_nil,or_false]at hc
  rcases hc with rfl|rfl|rfl
  ·exact⟨b1,by omega⟩
  ·exact⟨b2,by omega⟩
  ·exact⟨b3,by omega⟩
theorem Qrh {c:List PV} (h:Qcj (.slc segT) c): ∃p:List Sg,TT.mk (.slc segT) c= .slc (p.map sgPV)∧((∀s∈p,Qyx s)∧p.length≤maxLen):=by
 simp only [Qcj]at h
 obtain⟨ess,rfl,hm,h⟩:=h
 have key: ∀ess:List (List PV),(∀c∈ess,Qcj segT c)→ ∃l:List Sg,ess.map segT.mk=l.map sgPV∧l.length=ess.length∧ ∀s∈l,Qyx s:=by
  intro ess
  induction ess with
  |nil=>exact fun _=>⟨[],rfl,rfl,fun _ h=>nomatch h⟩
  |cons c cs ih=>
   intro h
   obtain⟨s,e,b⟩:=Zdr (h c (by simp))
   obtain⟨l,hl,hn,hx⟩:=ih (fun c hc=>h c (by simp [hc]))
   refine⟨s::l,by simp [e,hl],by simp [hn],fun x hx'=> ?_⟩
   cases hx' with
   |head=>exact b
   |tail _ h=>exact hx x h
 obtain⟨l,e,hn,hx⟩:=key ess h
 exact⟨l,by simp only [TT.mk,List.headD_cons];rw [e],hx,by omega⟩
end Go.Proofs.YtlpiamlgibomhaaGreat

namespace Go.Proofs.YtlpiamlgibomhaaGreat
open Go.Vl Go.RowKit Go.Dg
end Go.Proofs.YtlpiamlgibomhaaGreat

namespace Go.Proofs.YtlpiamlgibomhaaGreat
open Go.Vl Go.RowKit Go.Dg
theorem Zhc (l:List Int):((l.map (PV.int .i64)).all fun e=>e.cells.length==1&&Qbo e.cells)=true:=by
 rw [List.all_map,List.all_eq_true];intro _ _;rfl
end Go.Proofs.YtlpiamlgibomhaaGreat

namespace Go.Proofs.YtlpiamlgibomhaaGreat
open Go.Vl Go.RowKit Go.Dg
theorem refd (e:Int):Qag Tryz.prog 25 [.slc [],.int .i64 e,.int .i64 e] (.bool true):=by
 have h:=Qq3 [] e e
 have:((e==e)&&((([]:List PV).length:Int)==0))=true:=by simp
 rwa [this]at h
end Go.Proofs.YtlpiamlgibomhaaGreat

namespace Go.Dg
theorem Qxb (c:List Int) (m a d:Int) (k:Nat) (h:k≤5):plcT c (m*a) (m*d) k=m^5*plcT c a d k:=by
 unfold plcT
 have e:m^5=m^k*m^(5-k):=by rw [←Int.pow_add];congr 1;omega
 rw [Int.mul_pow,Int.mul_pow,e]
 simp only [Int.mul_comm,Int.mul_left_comm,Int.mul_assoc]
theorem Qqr (c:List Int) (m a d:Int) (h:c.length≤6):plc c (m*a) (m*d)=m^5*plc c a d:=by
 unfold plc
 have key: ∀n,n≤6→sm (plcT c (m*a) (m*d)) n=m^5*sm (plcT c a d) n:=by
  intro n
  induction n with
  |zero=>intro _;simp [sm]
  |succ n ih=>intro hn;simp only [sm];rw [ih (by omega),Qxb c m a d n (by omega),Int.mul_add]
 exact key _ h
theorem Qqs (s:Sg) (m:Nat) (a d:Int) (h: ∀c∈s.ax,c.length≤6): ∀i,i≤3→plG s (m*a) (m*d) i=m^5*plG s a d i:=by
 intro i hi
 induction i with
 |zero=>
  show(s.o*((m:Int)*d)^5).natAbs=m^5*(s.o*d^5).natAbs
  rw [Int.mul_pow,Int.mul_left_comm,Int.natAbs_mul,Int.natAbs_pow,Int.natAbs_natCast]
 |succ i ih=>
  rw [Qd8,Qd8,ih (by omega)]
  have e:plP s (m*a) (m*d) i=(m:Int)^5*plP s a d i:=Qqr _ _ _ _ (h _ (Qlq s i (by omega)))
  rw [e,Int.natAbs_mul,Int.natAbs_pow,Int.natAbs_natCast,Nat.gcd_mul_left]
theorem Qqt (s:Sg) (m:Nat) (a d:Int) (hm:0<m) (h: ∀c∈s.ax,c.length≤6) (i:Nat) (hi:i<3):plQ s (m*a) (m*d) i=plQ s a d i:=by
 have e:plP s (m*a) (m*d) i=(m:Int)^5*plP s a d i:=Qqr _ _ _ _ (h _ (Qlq s i hi))
 unfold plQ
 rw [e,Qqs s m a d h 3 (by decide),Int.natCast_mul,Int.natCast_pow]
 exact Int.mul_ediv_mul_of_pos _ _ (Int.pow_pos (by omega))
theorem Qqu (s:Sg) (m:Nat) (a d:Int) (hm:0<m) (h: ∀c∈s.ax,c.length≤6):plO s (m*a) (m*d)=plO s a d:=by
 unfold plO
 rw [Qqs s m a d h 3 (by decide),Int.natCast_mul,Int.natCast_pow,Int.mul_pow,Int.mul_left_comm]
 exact Int.mul_ediv_mul_of_pos _ _ (Int.pow_pos (by omega))
theorem Qo2 {p:List Sg} (hV:Qa4 p=true):atIx p (pEnd p)=p.length-1:=by
 have hi:=Q0j hV (Int.le_refl (pEnd p))
 have ha:=Qoy hi
 have h1:p.length-1<p.length:=by omega
 have e:pEnd p=p[p.length-1].t:=by unfold pEnd;rw [sgD h1]
 by_cases hlt:atIx p (pEnd p)<p.length-1
 ·exfalso
  have s1:=Qln hV (atIx p (pEnd p)) (by omega)
  have s2:=Qep hV (p.length-1) (atIx p (pEnd p)+1) h1 (by omega)
  omega
 ·omega
theorem Qo3 {p:List Sg} (hV:Qa4 p=true):atIx p (pBeg p)=0:=by
 have h0:0<p.length:=by have:=(Qbn hV).2.1;omega
 rcases Nat.eq_zero_or_pos (atIx p (pBeg p))with e|e
 ·exact e
 ·have h:=Qfm e h0
  obtain⟨⟨a1,a2, -⟩, -, -⟩:=Qa2 (Qci hV _ h0)
  have e2:pBeg p=p[0].f:=by unfold pBeg;rw [sgD h0]
  omega
end Go.Dg

namespace Go.Proofs.YtlpiamlgibomhaaGreat
open Go.Vl Go.RowKit Go.Dg
theorem Zmq {p:List Sg} (hV:Qa4 p=true):(∀i,i<3→exQ p (pEnd p) i=plQ (p.getD (p.length-1) sg0) 1 1 i)∧exO p (pEnd p)=plO (p.getD (p.length-1) sg0) 1 1:=by
 have hl:=(Qbn hV).2.1
 have h1:p.length-1<p.length:=by omega
 have hv:=Qci hV _ h1
 obtain⟨⟨v1,v2,v3, -, -⟩,hax, -⟩:=Qa2 hv
 have h6: ∀c∈(p.getD (p.length-1) sg0).ax,c.length≤6:=by rw [sgD h1];exact fun c hc=>(Qcd (hax c hc)).2.1
 have hd: ∃m:Nat,0<m∧exA p (pEnd p)=(m:Int)*1∧exD p (pEnd p)=(m:Int)*1:=by
  refine⟨(p[p.length-1].t-p[p.length-1].f).toNat,by omega,?_,?_⟩
  ·unfold exA;rw [Qo2 hV,sgD h1];unfold pEnd;rw [sgD h1];omega
  ·unfold exD;rw [Qo2 hV,sgD h1];omega
 obtain⟨m,hm,eA,eD⟩:=hd
 unfold exQ exO
 rw [eA,eD,Qo2 hV]
 exact⟨fun i hi=>Qqt _ m 1 1 hm h6 i hi,Qqu _ m 1 1 hm h6⟩
theorem Zmr {p:List Sg} (hV:Qa4 p=true):(∀i,i<3→exQ p (pBeg p) i=plQ (p.getD 0 sg0) 0 1 i)∧exO p (pBeg p)=plO (p.getD 0 sg0) 0 1:=by
 have hl:=(Qbn hV).2.1
 have h1:0<p.length:=by omega
 have hv:=Qci hV _ h1
 obtain⟨⟨v1,v2,v3, -, -⟩,hax, -⟩:=Qa2 hv
 have h6: ∀c∈(p.getD 0 sg0).ax,c.length≤6:=by rw [sgD h1];exact fun c hc=>(Qcd (hax c hc)).2.1
 have hd: ∃m:Nat,0<m∧exA p (pBeg p)=(m:Int)*0∧exD p (pBeg p)=(m:Int)*1:=by
  refine⟨(p[0].t-p[0].f).toNat,by omega,?_,?_⟩
  ·unfold exA;rw [Qo3 hV,sgD h1];unfold pBeg;rw [sgD h1];omega
  ·unfold exD;rw [Qo3 hV,sgD h1];omega
 obtain⟨m,hm,eA,eD⟩:=hd
 unfold exQ exO
 rw [eA,eD,Qo3 hV]
 exact⟨fun i hi=>Qqt _ m 0 1 hm h6 i hi,Qqu _ m 0 1 hm h6⟩
set_option maxHeartbeats 1000000 in
theorem Qpa (a b:List Sg) (ha: ∀s∈a,okSg s) (hb: ∀s∈b,okSg s) (hla:a.length≤100000) (hlb:b.length≤100000) (hA:Qa4 a=true) (hB:Qa4 b=true):Qag Tryz.prog 28 [Qaq a,Qaq b] (.bool (Qge a b)):=by
 have la:=(Qbn hA).2.1
 have lb:=(Qbn hB).2.1
 obtain⟨e1,e2,e3,e4⟩:=Qht hA
 obtain⟨f1,f2,f3,f4⟩:=Qht hB
 have hia:a.length-1<a.length:=by omega
 have hib:0<b.length:=by omega
 have m1:pBeg a≤pEnd a:=by
  have s2:=Qep hA (a.length-1) 0 hia (by omega)
  obtain⟨⟨v1,v2,v3, -, -⟩, -, -⟩:=Qa2 (Qci hA 0 (by omega))
  unfold pBeg pEnd;rw [sgD hia,sgD (show 0<a.length by omega)];omega
 have m2:pBeg b≤pEnd b:=by
  have s2:=Qep hB (b.length-1) 0 (by omega) (by omega)
  obtain⟨⟨v1,v2,v3, -, -⟩, -, -⟩:=Qa2 (Qci hB 0 (by omega))
  unfold pBeg pEnd;rw [sgD hib,sgD (show b.length-1<b.length by omega)];omega
 have hL1:lasts a (pEnd a)=true:=by unfold lasts;simp [m1]
 have hL2:lasts b (pBeg b)=true:=by unfold lasts;simp [m2]
 have x1:=Qph a (pEnd a) ha (by omega) (by unfold i64;omega) hA hL1
 have x2:=Qph b (pBeg b) hb (by omega) (by unfold i64;omega) hB hL2
 obtain⟨b1,b2,b3⟩:=Zg1 ha hA hL1
 obtain⟨c1,c2,c3⟩:=Zg1 hb hB hL2
 have sm:=Q1n _ _ _ _ _ _ _ _ 2000 (by decide) (b1 0 (by decide)).1 (b1 1 (by decide)).1 (b1 2 (by decide)).1 b2 (c1 0 (by decide)).1 (c1 1 (by decide)).1 (c1 2 (by decide)).1 c2
 have g1:=Q8m b hib
 have g2:=Zmv a (by omega) (by omega)
 obtain⟨p1,p2⟩:=Zmq hA
 obtain⟨q1,q2⟩:=Zmr hB
 have hM:Qge a b=(decide (pEnd a=pBeg b)&&(decide (exQ a (pEnd a) 0=exQ b (pBeg b) 0)&&(decide (exQ a (pEnd a) 1=exQ b (pBeg b) 1)&&(decide (exQ a (pEnd a) 2=exQ b (pBeg b) 2)&&decide (exO a (pEnd a)=exO b (pBeg b)))))):=by
  rw [p1 0 (by decide),p1 1 (by decide),p1 2 (by decide),p2,q1 0 (by decide),q1 1 (by decide),q1 2 (by decide),q2];rfl
 rw [hM]
 obtain⟨R1,R2,R3,hR⟩: ∃R1 R2 R3,Qdl [exQ a (pEnd a) 0,exQ a (pEnd a) 1,exQ a (pEnd a) 2] (exO a (pEnd a))= .agg [.slc R1,.bool R2,.slc R3]:=⟨_,_,_,rfl⟩
 obtain⟨S1,S2,S3,hS⟩: ∃S1 S2 S3,Qdl [exQ b (pBeg b) 0,exQ b (pBeg b) 1,exQ b (pBeg b) 2] (exO b (pBeg b))= .agg [.slc S1,.bool S2,.slc S3]:=⟨_,_,_,rfl⟩
 rw [hR]at x1 sm
 rw [hS]at x2 sm
 clear hR hS hM b1 b2 b3 c1 c2 c3 p1 p2 q1 q2 m1 m2 hL1 hL2
 unfold Qaq at x1 x2 g1 g2 ⊢
 generalize (decide (exQ a (pEnd a) 0=exQ b (pBeg b) 0)&&(decide (exQ a (pEnd a) 1=exQ b (pBeg b) 1)&&(decide (exQ a (pEnd a) 2=exQ b (pBeg b) 2)&&decide (exO a (pEnd a)=exO b (pBeg b)))))=T at*
 generalize pEnd a=E at*
 generalize pBeg b=Bg at*
 by_cases h:E=Bg
 ·have h':(Bg==E)=true:=by rw [h];exact beq_self_eq_true _
  rw [decide_eq_true h,Bool.true_and]
  refine Qac (tb:=[]) 21 [.tmp 4] [0,1,4] mixed Tryz.func28 rfl (by kernel_rfl) (by kernel_rfl) (by kernel_rfl) (by kernel_rfl) ?_
  repeat (first|(simp -implicitDefEqProofs only [go_sem,Nat.reduceAdd,Nat.reduceMul,Nat.reduceEqDiff,Nat.reduceLT,Nat.reduceLeDiff,reduceCtorEq,h'])|((with_reducible refine Qab (g1) ?_ ?_ ?_);(with_reducible rfl);rfl)|((with_reducible refine Qab (g2) ?_ ?_ ?_);(with_reducible rfl);rfl)|((with_reducible refine Qab (x1) ?_ ?_ ?_);(with_reducible rfl);rfl)|((with_reducible refine Qab (x2) ?_ ?_ ?_);(with_reducible rfl);rfl)|((with_reducible refine Qab (sm) ?_ ?_ ?_);(with_reducible rfl);rfl))
 ·have h':(Bg==E)=false:=by rw [beq_eq_false_iff_ne];exact fun e=>h e.symm
  rw [decide_eq_false h,Bool.false_and]
  refine Qac (tb:=[]) 21 [.tmp 4] [0,1,4] mixed Tryz.func28 rfl (by kernel_rfl) (by kernel_rfl) (by kernel_rfl) (by kernel_rfl) ?_
  repeat (first|(simp -implicitDefEqProofs only [go_sem,Nat.reduceAdd,Nat.reduceMul,Nat.reduceEqDiff,Nat.reduceLT,Nat.reduceLeDiff,reduceCtorEq,h'])|((with_reducible refine Qab (g1) ?_ ?_ ?_);(with_reducible rfl);rfl)|((with_reducible refine Qab (g2) ?_ ?_ ?_);(with_reducible rfl);rfl)|((with_reducible refine Qab (x1) ?_ ?_ ?_);(with_reducible rfl);rfl)|((with_reducible refine Qab (x2) ?_ ?_ ?_);(with_reducible rfl);rfl)|((with_reducible refine Qab (sm) ?_ ?_ ?_);(with_reducible rfl);rfl))
end Go.Proofs.YtlpiamlgibomhaaGreat

namespace Go.Proofs.YtlpiamlgibomhaaGreat
open Go.Vl Go.RowKit Go.Dg
set_option maxHeartbeats 1000000 in
theorem Qvn (p:List Sg) (hl:p.length≤100000) (hc: ∀s∈p,∀c∈s.ax,c.length≤100000):Qc0 Tryz.prog 22 [Qaq p] [] (.bs 7 6 0 p.length) [(7,{els:=p.map sgPV,esz:=6,ety:=24,fro:=0,live:=true,arr:=true})]:=by
 refine Qcr (tb:=[]) 33 [.tmp 2] [0,2,3,4,5,9] mixed Tryz.func22 rfl (by kernel_rfl) (by kernel_rfl) (by kernel_rfl) (by kernel_rfl) (by rfl) ?_
 repeat (first|(simp -implicitDefEqProofs only [go_sem,Nat.reduceAdd,Nat.reduceMul,Nat.reduceEqDiff,Nat.reduceLT,Nat.reduceLeDiff,reduceCtorEq,Qaq,List.length_map])|(with_reducible exact Qaa _ _ (by kernel_rfl))|(with_reducible refine And.intro (Qaa _ _ (by kernel_rfl)) ?_))
 refine Qat mixed (fun i:{i:Nat // i≤p.length}=>St.of [(0,Qaq p),(3,.bs 7 6 0 i.1),(4,.int .i64 (i.1:Int))]
  [(7,{els:=(p.take i.1).map sgPV,esz:=6,ety:=24,fro:=0,live:=true,arr:=true})]) (fun i=>p.length-i.1) ⟨0,Nat.zero_le _⟩ ?_ ?_
 ·refine Qfz 3 7 6 24 rfl rfl rfl (by decide) [(7,7)] rfl ?_ ?_
  ·simp [Qad,lkp,ren1,ren0,Qao,Qaq]
  ·exact⟨⟨rfl,rfl,rfl,rfl,rfl,.inl ⟨rfl,rfl⟩⟩,trivial⟩
 ·rintro⟨i,hi⟩
  by_cases hA:i<p.length
  ·have hA':=ltT hA
   have n0:=nnT i
   have hg:=Qb7 p i hA
   have hwk:=Qai (a:=i) (by omega)
   have hs:=hc _ (List.getElem_mem hA)
   have c1:=hs p[i].x (by simp [Sg.ax])
   have c2:=hs p[i].y (by simp [Sg.ax])
   have c3:=hs p[i].z (by simp [Sg.ax])
   have hlt:((p.take i).map sgPV).length=i:=by simp;omega
   have hok:=Qdg (p.take i)
   have k1:((i+1)*96≤140737488355328)=True:=eq_true (by omega)
   have k2:(i+1≤maxLen)=True:=eq_true (by unfold maxLen;omega)
   have hts:(p.take (i+1)).map sgPV=(p.take i).map sgPV++[sgPV p[i]]:=by rw [Qbk p i hA,List.map_append];rfl
   generalize (p.take i).map sgPV=T at*
   generalize p[i]=s at*
   have x1:(s.x.length*8≤140737488355328)=True:=eq_true (by omega)
   have x2:(s.y.length*8≤140737488355328)=True:=eq_true (by omega)
   have x3:(s.z.length*8≤140737488355328)=True:=eq_true (by omega)
   have y1:(s.x.length≤maxLen)=True:=eq_true (by unfold maxLen;omega)
   have y2:(s.y.length≤maxLen)=True:=eq_true (by unfold maxLen;omega)
   have y3:(s.z.length≤maxLen)=True:=eq_true (by unfold maxLen;omega)
   have t1:(s.x.map (PV.int .i64)).take s.x.length=s.x.map (PV.int .i64):=List.take_of_length_le (by simp)
   have t2:(s.y.map (PV.int .i64)).take s.y.length=s.y.map (PV.int .i64):=List.take_of_length_le (by simp)
   have t3:(s.z.map (PV.int .i64)).take s.z.length=s.z.map (PV.int .i64):=List.take_of_length_le (by simp)
   have z1:=Qgd s.x
   have z2:=Qgd s.y
   have z3:=Qgd s.z
   repeat (first|(simp -implicitDefEqProofs only [go_sem,Nat.reduceAdd,Nat.reduceMul,Nat.reduceEqDiff,Nat.reduceLT,Nat.reduceLeDiff,reduceCtorEq,Nat.reduceBneDiff,hA',n0,hg,hwk,hlt,hok,k1,k2,x1,x2,x3,y1,y2,y3,t1,t2,t3,z1,z2,z3,Q08,Zhc,Int.toNat_natCast,List.length_map])|(with_reducible exact Qaa _ _ (by kernel_rfl))|(with_reducible refine And.intro (Qaa _ _ (by kernel_rfl)) ?_))
   refine⟨⟨i+1,hA⟩,by simp only;omega,Qal (θ:=[(7,703)]) rfl ?_ ?_⟩
   ·simp [Qad,lkp,ren1,ren0,Qao,Qaq]
   ·simp only [hts]
    exact⟨⟨rfl,rfl,rfl,rfl,rfl,.inl ⟨rfl,rfl⟩⟩,trivial⟩
  ·have hA':=ltF hA
   obtain rfl:i=p.length:=by omega
   have ht:p.take p.length=p:=List.take_length
   simp only [ht]
   repeat (first|(simp -implicitDefEqProofs only [go_sem,Nat.reduceAdd,Nat.reduceMul,Nat.reduceEqDiff,Nat.reduceLT,Nat.reduceLeDiff,reduceCtorEq,hA',Qaq,List.length_map])|(with_reducible exact Qaa _ _ (by kernel_rfl))|(with_reducible refine And.intro (Qaa _ _ (by kernel_rfl)) ?_))
   refine Qby (.inl rfl) ?_
   simp -implicitDefEqProofs only [go_sem,Nat.reduceEqDiff,reduceCtorEq]
   refine Qal (θ:=[(7,7)]) rfl ?_ ?_
   ·simp [Qad,lkp,ren1,ren0,Qao]
   ·exact⟨⟨rfl,rfl,rfl,rfl,rfl,.inl ⟨rfl,rfl⟩⟩,trivial⟩
def hov (o:Int) (n:Nat):List Sg:=(List.range n).map fun(i:Nat)=>(⟨o+(i:Int),o+(i:Int)+1,1,[1],[2],[3]⟩:Sg)
theorem Qvo (o:Int) (n:Nat):hov o (n+1)=hov o n++[⟨o+(n:Int),o+(n:Int)+1,1,[1],[2],[3]⟩]:=by simp [hov,List.range_succ]
theorem Qjh (o:Int) (n:Nat):(hov o n).length=n:=by simp [hov]
end Go.Proofs.YtlpiamlgibomhaaGreat

namespace Go.Proofs.YtlpiamlgibomhaaGreat
open Go.Vl Go.RowKit Go.Dg
def hv (f:Int):Sg:=⟨f,f+1,1,[1],[2],[3]⟩
theorem Ze6 (o:Int) (n:Nat):hov o n=(List.range n).map fun(i:Nat)=>hv (o+(i:Int)):=rfl
theorem Qpb (o:Int) (n i:Nat) (h:i<n):(hov o n).getD i sg0=hv (o+(i:Int)):=by
 rw [Ze6,List.getD_eq_getElem?_getD];simp [h]
theorem Q8j {f:Int} (h0:0≤f) (h1:f<3600000):Qa3 (hv f)=true:=by
 have e1:rngS (hv f)=true:=by
  show(decide (0≤f)&&(decide (f<f+1)&&(decide (f+1≤3600000)&&(decide ((1:Int)≤1)&&decide ((1:Int)≤4294967296)))))=true
  rw [decide_eq_true h0,decide_eq_true (show f<f+1 by omega),decide_eq_true (show f+1≤3600000 by omega)]
  rfl
 have e2:(([[1],[2],[3]]:List (List Int)).all fun c=>axOK c 1)=true:=by decide+kernel
 have e3:(([[1],[2],[3]]:List (List Int)).foldl gcdL 1==1)=true:=by decide+kernel
 unfold Qa3
 rw [e1,Bool.true_and]
 exact Bool.and_eq_true_iff.2 ⟨e2,e3⟩
theorem Zhd:Qll ⟨0,0,1,[1],[2],[3]⟩ 1 1 ⟨0,0,1,[1],[2],[3]⟩ 0 1=true:=by decide+kernel
theorem Qvp {f g:Int} (h:f+1=g):Qdf (hv f) (hv g)=true:=by
 have e:Qll (hv f) 1 1 (hv g) 0 1=true:=Zhd
 unfold Qdf
 rw [e,Bool.and_true]
 exact decide_eq_true h
theorem Ze7 (o:Int) (n:Nat) (h0:0≤o) (h1:o+n≤3600000):(∀s∈hov o n,okSg s)∧ ∀s∈hov o n,∀c∈s.ax,c.length≤1:=by
 have key: ∀s∈hov o n,∃f,s=hv f∧0≤f∧f<3600000:=by
  intro s hs
  rw [Ze6]at hs
  simp only [List.mem_map,List.mem_range]at hs
  obtain⟨i,hi,rfl⟩:=hs
  exact⟨_,rfl,by omega,by omega⟩
 refine⟨fun s hs=> ?_,fun s hs=> ?_⟩
 ·obtain⟨f,rfl,a,b⟩:=key s hs
  refine⟨by unfold i64 hv;simp only;omega,by unfold i64 hv;simp only;omega,by unfold i64 hv;simp only;omega,fun c hc x hx=> ?_,fun c hc=> ?_⟩
  ·simp only [Sg.ax,hv,List.mem_cons,List.not_mem_nil,or_false]at hc
   rcases hc with rfl|rfl|rfl<;>(simp only [List.mem_singleton]at hx;subst hx;unfold i64;omega)
  ·simp only [Sg.ax,hv,List.mem_cons,List.not_mem_nil,or_false]at hc
   rcases hc with rfl|rfl|rfl<;>simp
 ·obtain⟨f,rfl,a,b⟩:=key s hs
  intro c hc
  simp only [Sg.ax,hv,List.mem_cons,List.not_mem_nil,or_false]at hc
  rcases hc with rfl|rfl|rfl<;>simp
theorem Qq4 (o:Int) (n:Nat) (h0:0≤o) (h1:o+n≤3600000) (hn:1≤n) (h2:n≤256):Qa4 (hov o n)=true:=by
 have hv1:vpTo (hov o n) n=true:=by
  unfold vpTo
  rw [List.all_eq_true]
  intro j hj
  have hj:=List.mem_range.1 hj
  unfold vpAt
  rw [Qpb o n j hj,Q8j (by omega) (by omega),Bool.true_and]
  by_cases e:j=0
  ·simp [e]
  ·rw [Qpb o n (j-1) (by omega),Qvp (by omega),Bool.or_true]
 unfold Qa4
 rw [Qjh,hv1,decide_eq_true hn,decide_eq_true h2]
 rfl
theorem Q1g (o:Int) (n m:Nat) (hn:1≤n) (hm:1≤m):Qge (hov o n) (hov (o+n) m)=true:=by
 unfold Qge
 rw [Qjh,Qpb o n (n-1) (by omega),Qpb _ m 0 (by omega)]
 exact Qvp (by omega)
end Go.Proofs.YtlpiamlgibomhaaGreat
