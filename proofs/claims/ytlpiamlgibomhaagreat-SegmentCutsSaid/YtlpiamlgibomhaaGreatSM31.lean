/-
  SM25, SM26, SM27, SM8s, SM28, SY1, SY9, SM29, SM30, SM31 (merged for the claim).
-/
import Derived.Test.YtlpiamlgibomhaaGreatSM24
import Derived.Test.YtlpiamlgibomhaaGreatSM9
import Derived.Test.YtlpiamlgibomhaaGreatDs
import Derived.Test.YtlpiamlgibomhaaGreatRows
import Derived.Test.YtlpiamlgibomhaaGreatUV
import Derived.Test.YtlpiamlgibomhaaGreatSM4
set_option linter.unusedSimpArgs false
set_option linter.unusedVariables false
namespace Go.Proofs.YtlpiamlgibomhaaGreat
open Go.Vl Go.RowKit Go.Dg
def revL (s:Sg):Nat→List Int:=cmpL s 1 (-1) 1
def revS (W:Int) (s:Sg):Sg:=Qqt (W-s.t) (W-s.f) (revL s) s.o
def Qvl (s:Sg):Prop:= ∀i,i<3→ ∀x∈revL s i,(x/(mdG (revL s) s.o 3:Int)).natAbs≤4611686018427387904
def revK (p:List Sg) (k:Nat):List Sg:=(List.range k).map fun j=>revS (pBeg p+pEnd p) (p.getD (p.length-1-j) sg0)
def revP (p:List Sg):List Sg:=revK p p.length
theorem Q1i (p:List Sg) (k:Nat):revK p (k+1)=revK p k++[revS (pBeg p+pEnd p) (p.getD (p.length-1-k) sg0)]:=by simp [revK,List.range_succ]
theorem Qvm (p:List Sg) (k:Nat):(revK p k).length=k:=by simp [revK]
theorem Q8o {s:Sg} (hv:Qa2 s=true):Qhu (revL s) s.o=true:=by
 obtain⟨⟨v1,v2,v3,v4,v5⟩, -, -⟩:=Qa3 hv
 refine decide_eq_true ?_
 unfold mdO
 exact Int.le_trans (Int.ediv_le_self _ (by omega)) v5
theorem Q8p:i64 1:=by unfold i64;omega
theorem Zfd:i64 (-1):=by unfold i64;omega
theorem Zhc {s:Sg} (hs:okSg s) (hv:Qa2 s=true): ∀i,i<3→bd 12000 (revL s i)∧(revL s i).length≤6:=by
 intro i hi
 have hm:=Qlr s i hi
 obtain⟨l1,l6, -, -⟩:=Qb4 ((Qa3 hv).2.1 _ hm)
 exact⟨(Qnv l6 (fun x hx=>Qav (hs.c _ hm x hx)) (Qav Q8p) (Qav Zfd) (Qav Q8p)).2,Qs2 l6⟩
theorem Zmz (s:Sg) (W:Int) (hs:okSg s) (hv:Qa2 s=true) (hf:Qvl s):
  Qaf Tryz.prog 78 [.int .i64 (W-s.t),.int .i64 (W-s.f),.agg [wL (revL s 0),wL (revL s 1),wL (revL s 2)],wPV s.o] (.tup [sgPV (revS W s),.bool true]):=by
 have hbd:=Zhc hs hv
 obtain⟨⟨v1,v2,v3,v4,v5⟩, -, -⟩:=Qa3 hv
 have h:=Q03 (W-s.t) (W-s.f) (revL s) s.o 12000 (by decide) (by omega) (Qdk (C:=12000) (Qav hs.o) (by decide)) (fun i hi=>(hbd i hi).1) (fun i hi=>by have:=(hbd i hi).2;omega) (fun _=>hf)
 rw [if_pos (Q8o hv)]at h
 exact h
def rvB (p:List Sg):Nat→List (Nat×Box)
 |0=>[(1000000,{els:=[.int .i64 (pBeg p)],esz:=1,ety:=3,fro:=0,live:=true,arr:=false}),(1000001,{els:=[.int .i64 (pEnd p)],esz:=1,ety:=3,fro:=0,live:=true,arr:=false}),(1000002,{els:=[.nilS],esz:=1,ety:=27,fro:=0,live:=true,arr:=false})]
 |k+1=>[(1000000,{els:=[.int .i64 (pBeg p)],esz:=1,ety:=3,fro:=0,live:=true,arr:=false}),(1000001,{els:=[.int .i64 (pEnd p)],esz:=1,ety:=3,fro:=0,live:=true,arr:=false}),(1000002,{els:=[.bs 7 6 0 (k+1)],esz:=1,ety:=27,fro:=0,live:=true,arr:=false}),(7,{els:=(revK p (k+1)).map sgPV,esz:=6,ety:=24,fro:=0,live:=true,arr:=true})]
theorem Zpt (p:List Sg) (k:Nat): ∀b∈ [1000000,1000001,1000002],(lkp (rvB p k) b).isSome=true:=by
 cases k<;>simp [rvB,lkp]
def Qic (p:List Sg):PV:=if Qbj p=true then .tup [Qas (revP p),.int .i64 0]else .tup [Qas [],.int .i64 2]
theorem Qs4 {p:List Sg} (hV:Qbj p=true):0≤pBeg p∧pBeg p≤3600000∧0≤pEnd p∧pEnd p≤3600000:=by
 have h:=(Qb6 hV).2.1
 have h1:p.length-1<p.length:=by omega
 have h0:0<p.length:=by omega
 obtain⟨⟨a1,a2,a3, -, -⟩, -, -⟩:=Qa3 (Qeu hV _ h0)
 obtain⟨⟨b1,b2,b3, -, -⟩, -, -⟩:=Qa3 (Qeu hV _ h1)
 unfold pBeg pEnd
 rw [sgD h0,sgD h1]
 omega
set_option maxHeartbeats 4000000 in
theorem Qxk (p:List Sg) (hp: ∀s∈p,okSg s) (hl:p.length≤100000) (hfit:Qbj p=true→ ∀s∈p,Qvl s):Qaf Tryz.prog 37 [Qas p] (Qic p):=by
 have hs:=Qs9 p hp (by omega)
 unfold Qic
 unfold Qas at hs
 cases hV:Qbj p with
 |false=>
  rw [hV]at hs
  simp only [Bool.false_eq_true,if_false]at hs
  unfold Qas
  refine Qac (tb:=[]) 51 [.tmp 2,.tmp 3] [0,2,3,4,5,6,7,9,10,19,22,23,24] mixed Tryz.func37 rfl (by kernel_rfl) (by kernel_rfl) (by kernel_rfl) (by kernel_rfl) ?_
  repeat (first|(simp -implicitDefEqProofs only [go_sem,Nat.reduceAdd,Nat.reduceMul,Nat.reduceEqDiff,Nat.reduceLT,Nat.reduceLeDiff,reduceCtorEq,Int.reduceNeg,Zhm,Bool.false_eq_true,if_false,List.map_nil])|((with_reducible refine Qab (hs) ?_ ?_ ?_);(with_reducible rfl);rfl)|(with_reducible exact Qaa _ _ (by kernel_rfl))|(with_reducible refine And.intro (Qaa _ _ (by kernel_rfl)) ?_))
 |true=>
  rw [hV]at hs
  simp only [if_true]at hs ⊢
  have hv:=Qg2 hV
  have hft:=hfit hV
  obtain⟨e1,e2,e3,e4⟩:=Qs4 hV
  have h1:=Zps p
  have hY:=Zmx p hl
  unfold Qas at h1 hY ⊢
  obtain⟨n,hn1⟩: ∃n,p.length=n+1:=⟨p.length-1,by have:=(Qb6 hV).2.1;omega⟩
  have hlo:(Qef p).length=n+1:=by simp [Qef,hn1]
  have hmin:min (Qef p).length (n+1+1)=n+1:=by omega
  have wab:IntKind.i64.wrap (pBeg p+pEnd p)=pBeg p+pEnd p:=Qai (by omega) (by omega)
  refine Qac (tb:=[]) 51 [.tmp 2,.tmp 3] [0,2,3,4,5,6,7,9,10,19,22,23,24] mixed Tryz.func37 rfl (by kernel_rfl) (by kernel_rfl) (by kernel_rfl) (by kernel_rfl) ?_
  repeat (first|(simp -implicitDefEqProofs only [go_sem,Nat.reduceAdd,Nat.reduceMul,Nat.reduceEqDiff,Nat.reduceLT,Nat.reduceLeDiff,reduceCtorEq,Int.reduceNeg,Qlw,Bool.false_eq_true,if_false])|((with_reducible refine Qab (hs) ?_ ?_ ?_);(with_reducible rfl);rfl)|((with_reducible refine Qab (h1) ?_ ?_ ?_);(with_reducible rfl);rfl)|(with_reducible exact Qaa _ _ (by kernel_rfl))|(with_reducible refine And.intro (Qaa _ _ (by kernel_rfl)) ?_))
  refine Qqf mixed hY rfl rfl _ rfl [(1000000,106),(1000001,107),(1000002,400)] [1000000,1000001,1000002] rfl [(4,.bp 1000000 1 0 0),(5,.bp 1000001 1 0 0),(7,.bp 1000002 1 0 0)] (rvB p) rfl rfl ?_ ?_ ?_ (n+1) .normal (fun h=>by omega) (fun k _ _=>Zpt p k) ?_ rfl ?_
   [(400,1000002),(7,7)] [(7,.bp 400 1 0 0)] [(400,{els:=[.bs 7 6 0 (n+1)],esz:=1,ety:=27,fro:=0,live:=true,arr:=false}),(7,{els:=(revP p).map sgPV,esz:=6,ety:=24,fro:=0,live:=true,arr:=true})] rfl rfl ?_ ?_ (fun _=> ?_) (fun h=>by omega)
  ·simp [Qad,lkp,ren1,ren0,Qao]
  ·exact⟨⟨rfl,rfl,rfl,rfl,rfl,.inr ⟨rfl,_,_,rfl,rfl,rfl,rfl⟩⟩,⟨rfl,rfl,rfl,rfl,rfl,.inr ⟨rfl,_,_,rfl,rfl,rfl,rfl⟩⟩,⟨rfl,rfl,rfl,rfl,rfl,.inr ⟨rfl,_,_,rfl,rfl,rfl,rfl⟩⟩,trivial⟩
  ·simp [Qad,lkp,ren1,ren0,Qao,Qsd]
  ·intro k args h
   simp only [Qef,List.getElem?_map,Option.map_eq_some_iff]at h
   obtain⟨x, -,rfl⟩:=h
   rfl
  ·rintro k args hka hk
   have hkl:k<n+1:=by have:=(List.getElem?_eq_some_iff.1 hka).1;omega
   have hargs:args=bwdO p k:=by
    simp only [Qef,List.getElem?_map,List.getElem?_range (show k<p.length by omega),Option.map_some,Option.some.injEq]at hka
    exact hka.symm
   have hi:p.length-1-k<p.length:=by omega
   have hO:bwdO p k=[.int .i64 ((p.length-1-k:Nat):Int),sgPV p[p.length-1-k]]:=by unfold bwdO;rw [sgD hi]
   rw [hargs,hO]
   have hmem:=List.getElem_mem hi
   have hsn:=Q1i p k
   rw [sgD hi]at hsn
   have hok:=hp _ hmem
   have hvs:=hv _ hmem
   have f4:=Zmz p[p.length-1-k] (pBeg p+pEnd p) hok hvs (hft _ hmem)
   generalize p[p.length-1-k]=s at*
   generalize ((p.length-1-k:Nat):Int)=ix at*
   clear hO hargs hka hi hmem
   obtain⟨⟨v1,v2,v3,v4,v5⟩,hax, -⟩:=Qa3 hvs
   have w1:IntKind.i64.wrap (pBeg p+pEnd p-s.t)=pBeg p+pEnd p-s.t:=Qai (by omega) (by omega)
   have w2:IntKind.i64.wrap (pBeg p+pEnd p-s.f)=pBeg p+pEnd p-s.f:=Qai (by omega) (by omega)
   have f1:=Qnw s 1 (-1) 1 hok (fun c hc=>(Qb4 (hax c hc)).2.1) Q8p Zfd Q8p (by omega)
   have eL:cmpL s 1 (-1) 1=revL s:=rfl
   rw [eL]at f1
   have f2:=Qe1 s.o hok.o.1 hok.o.2
   have hsn2:(revK p (k+1)).map sgPV=(revK p k).map sgPV++[.agg [.int .i64 (revS (pBeg p+pEnd p) s).f,.int .i64 (revS (pBeg p+pEnd p) s).t,.int .i64 (revS (pBeg p+pEnd p) s).o,.slc ((revS (pBeg p+pEnd p) s).x.map (PV.int .i64)),.slc ((revS (pBeg p+pEnd p) s).y.map (PV.int .i64)),.slc ((revS (pBeg p+pEnd p) s).z.map (PV.int .i64))]]:=by rw [hsn,List.map_append];rfl
   generalize revL s=L at*
   generalize revS (pBeg p+pEnd p) s=R at*
   unfold sgPV at f1 f4
   unfold wL at f1 f4
   have hlen:((revK p k).map sgPV).length=k:=by rw [List.length_map,Qvm]
   have hokf:=Qff (revK p k)
   have c1:((k+1)*96≤140737488355328)=True:=eq_true (by omega)
   have c2:(k+1≤maxLen)=True:=eq_true (by unfold maxLen;omega)
   cases k with
   |zero=>
    simp only [rvB]
    have e0:(revK p 0).map sgPV=[]:=rfl
    rw [e0,List.nil_append]at hsn2
    repeat (first|(simp -implicitDefEqProofs only [go_sem,Nat.reduceAdd,Nat.reduceMul,Nat.reduceEqDiff,Nat.reduceLT,Nat.reduceLeDiff,reduceCtorEq,Int.reduceNeg,pvars,List.toList_toArray,sgPV])|(with_reducible exact Qaa _ _ (by kernel_rfl))|(with_reducible refine And.intro (Qaa _ _ (by kernel_rfl)) ?_))
    refine⟨by simp [lkp],?_⟩
    repeat (first|(simp -implicitDefEqProofs only [go_sem,Nat.reduceAdd,Nat.reduceMul,Nat.reduceEqDiff,Nat.reduceLT,Nat.reduceLeDiff,reduceCtorEq,Int.reduceNeg,wPV,wab,w1,w2])|((with_reducible refine Qab (f1) ?_ ?_ ?_);(with_reducible rfl);rfl)|((with_reducible refine Qab (f2) ?_ ?_ ?_);(with_reducible rfl);rfl)|((with_reducible refine Qab (f4) ?_ ?_ ?_);(with_reducible rfl);rfl)|(with_reducible exact Qaa _ _ (by kernel_rfl))|(with_reducible refine And.intro (Qaa _ _ (by kernel_rfl)) ?_))
    refine⟨by omega,?_⟩
    refine Qak (θ:=[(1000000,1000000),(1000001,1000001),(1000002,1000002),(7,803)]) rfl ?_ ?_
    ·simp [Qad,lkp,ren1,ren0,Qao]
    ·simp only [rvB,hsn2]
     exact⟨⟨rfl,rfl,rfl,rfl,rfl,.inr ⟨rfl,_,_,rfl,rfl,rfl,rfl⟩⟩,⟨rfl,rfl,rfl,rfl,rfl,.inr ⟨rfl,_,_,rfl,rfl,rfl,rfl⟩⟩,⟨rfl,rfl,rfl,rfl,rfl,.inr ⟨rfl,_,_,rfl,rfl,rfl,rfl⟩⟩,⟨rfl,rfl,rfl,rfl,rfl,.inl ⟨rfl,rfl⟩⟩,trivial⟩
   |succ k=>
    simp only [rvB]
    generalize (revK p (k+1)).map sgPV=T at*
    repeat (first|(simp -implicitDefEqProofs only [go_sem,Nat.reduceAdd,Nat.reduceMul,Nat.reduceEqDiff,Nat.reduceLT,Nat.reduceLeDiff,reduceCtorEq,Int.reduceNeg,pvars,List.toList_toArray,sgPV])|(with_reducible exact Qaa _ _ (by kernel_rfl))|(with_reducible refine And.intro (Qaa _ _ (by kernel_rfl)) ?_))
    refine⟨by simp [lkp],?_⟩
    repeat (first|(simp -implicitDefEqProofs only [go_sem,Nat.reduceAdd,Nat.reduceMul,Nat.reduceEqDiff,Nat.reduceLT,Nat.reduceLeDiff,reduceCtorEq,Nat.reduceBneDiff,Int.reduceNeg,wPV,wab,w1,w2,hlen,hokf,c1,c2])|((with_reducible refine Qab (f1) ?_ ?_ ?_);(with_reducible rfl);rfl)|((with_reducible refine Qab (f2) ?_ ?_ ?_);(with_reducible rfl);rfl)|((with_reducible refine Qab (f4) ?_ ?_ ?_);(with_reducible rfl);rfl)|(with_reducible exact Qaa _ _ (by kernel_rfl))|(with_reducible refine And.intro (Qaa _ _ (by kernel_rfl)) ?_))
    refine⟨by omega,?_⟩
    refine Qak (θ:=[(1000000,1000000),(1000001,1000001),(1000002,1000002),(7,803)]) rfl ?_ ?_
    ·simp [Qad,lkp,ren1,ren0,Qao]
    ·simp only [rvB,hsn2]
     exact⟨⟨rfl,rfl,rfl,rfl,rfl,.inr ⟨rfl,_,_,rfl,rfl,rfl,rfl⟩⟩,⟨rfl,rfl,rfl,rfl,rfl,.inr ⟨rfl,_,_,rfl,rfl,rfl,rfl⟩⟩,⟨rfl,rfl,rfl,rfl,rfl,.inr ⟨rfl,_,_,rfl,rfl,rfl,rfl⟩⟩,⟨rfl,rfl,rfl,rfl,rfl,.inl ⟨rfl,rfl⟩⟩,trivial⟩
  ·simp [Qad,lkp,ren1,ren0,Qao]
  ·rw [hmin]
   have e:revK p (n+1)=revP p:=by unfold revP;rw [hn1]
   simp only [rvB,e]
   exact⟨⟨rfl,rfl,rfl,rfl,rfl,.inr ⟨rfl,_,_,rfl,rfl,rfl,rfl⟩⟩,⟨rfl,rfl,rfl,rfl,rfl,.inl ⟨rfl,rfl⟩⟩,trivial⟩
  ·have b1:((revP p).map sgPV).length=n+1:=by rw [List.length_map,revP,Qvm,hn1]
   have b2:(((revP p).map sgPV).flatMap PV.cells).all PV.okCell=true:=Qff _
   have b3:((revP p).map sgPV).take (n+1)=(revP p).map sgPV:=List.take_of_length_le (by omega)
   generalize (revP p).map sgPV=T at*
   repeat (first|(simp -implicitDefEqProofs only [go_sem,Nat.reduceAdd,Nat.reduceMul,Nat.reduceEqDiff,Nat.reduceLT,Nat.reduceLeDiff,reduceCtorEq,b1,b2,b3])|(with_reducible exact Qaa _ _ (by kernel_rfl))|(with_reducible refine And.intro (Qaa _ _ (by kernel_rfl)) ?_))
end Go.Proofs.YtlpiamlgibomhaaGreat

namespace Go.Proofs.YtlpiamlgibomhaaGreat
open Go.Vl Go.RowKit Go.Dg
instance (x:Int):Decidable (i64 x):=by unfold i64;infer_instance
def okB (s:Sg):Bool:=decide (i64 s.f)&&(decide (i64 s.t)&&(decide (i64 s.o)&&(s.ax.all fun c=>c.all (fun x=>decide (i64 x))&&decide (c.length≤1000))))
theorem Q1j {s:Sg} (h:okB s=true):okSg s:=by
 unfold okB at h
 simp only [Bool.and_eq_true,decide_eq_true_eq,List.all_eq_true]at h
 obtain⟨h1,h2,h3,h4⟩:=h
 exact⟨h1,h2,h3,fun c hc=>(h4 c hc).1,fun c hc=>(h4 c hc).2⟩
theorem Zfe {p:List Sg} (h:p.all okB=true): ∀s∈p,okSg s:=fun s hs=>Q1j (List.all_eq_true.1 h s hs)
def ex0:List Sg:=[⟨1000,3000,1,[100,20],[0,0,8],[50]⟩]
def exS:List Sg:=[⟨3000,4000,1,[120],[8],[50]⟩]
theorem Qid: ∀s∈ex0,okSg s:=Zfe (by decide+kernel)
theorem Zm0: ∀s∈exS,okSg s:=Zfe (by decide+kernel)
theorem Qcp:Qbj ex0=true:=by decide+kernel
theorem Zm1 {n:Nat} (h0:0<n) (h:n<256):digs 256 n=[n]:=by
 rw [digs,dif_neg (by omega),Nat.mod_eq_of_lt h,Nat.div_eq_of_lt h,Qay]
theorem mB_1 {n:Nat} (h0:0<n) (h:n<256):mB (n:Int)=⟨#[UInt8.ofNat n]⟩:=by
 unfold mB magL
 rw [Int.natAbs_natCast,Zm1 h0 h];rfl
theorem at0:atPV ex0 2000= .tup [vPV 110 2 50,.int .i64 0]:=by
 have h1:lasts ex0 2000=true:=by decide+kernel
 have e1:rnd (exQ ex0 2000 0) (exO ex0 2000)=110:=by decide+kernel
 have e2:rnd (exQ ex0 2000 1) (exO ex0 2000)=2:=by decide+kernel
 have e3:rnd (exQ ex0 2000 2) (exO ex0 2000)=50:=by decide+kernel
 unfold atPV
 rw [if_pos Qcp,if_pos h1,e1,e2,e3]
theorem at1:atPV ex0 1500= .tup [vPV 105 1 50,.int .i64 0]:=by
 have h1:lasts ex0 1500=true:=by decide+kernel
 have e1:rnd (exQ ex0 1500 0) (exO ex0 1500)=105:=by decide+kernel
 have e2:rnd (exQ ex0 1500 1) (exO ex0 1500)=1:=by decide+kernel
 have e3:rnd (exQ ex0 1500 2) (exO ex0 1500)=50:=by decide+kernel
 unfold atPV
 rw [if_pos Qcp,if_pos h1,e1,e2,e3]
theorem at2:atPV ex0 1250= .tup [vPV 103 0 50,.int .i64 0]:=by
 have h1:lasts ex0 1250=true:=by decide+kernel
 have e1:rnd (exQ ex0 1250 0) (exO ex0 1250)=103:=by decide+kernel
 have e2:rnd (exQ ex0 1250 1) (exO ex0 1250)=0:=by decide+kernel
 have e3:rnd (exQ ex0 1250 2) (exO ex0 1250)=50:=by decide+kernel
 unfold atPV
 rw [if_pos Qcp,if_pos h1,e1,e2,e3]
theorem ex_q:exQ ex0 1500 0=210∧exQ ex0 1500 1=1∧exQ ex0 1500 2=100∧exO ex0 1500=2∧lasts ex0 1500=true:=by decide+kernel
theorem Zhd:Qlu ex0 2000 3000= .tup [Qas [⟨2000,3000,1,[110,10],[2,4,2],[50]⟩],.int .i64 0]:=by
 have h1:pBeg ex0≤2000∧(2000:Int)<3000∧3000≤pEnd ex0:=by decide+kernel
 have h2:(spans ex0 2000 3000).all spF=true:=by decide+kernel
 have h3:(spans ex0 2000 3000).map spS=[⟨2000,3000,1,[110,10],[2,4,2],[50]⟩]:=by kernel_rfl
 unfold Qlu Qmz
 rw [if_pos Qcp,if_pos h1,if_pos h2,h3]
theorem Zhe:Qlu ex0 1000 1500= .tup [Qas [⟨1000,1500,2,[200,10],[0,0,1],[100]⟩],.int .i64 0]:=by
 have h1:pBeg ex0≤1000∧(1000:Int)<1500∧1500≤pEnd ex0:=by decide+kernel
 have h2:(spans ex0 1000 1500).all spF=true:=by decide+kernel
 have h3:(spans ex0 1000 1500).map spS=[⟨1000,1500,2,[200,10],[0,0,1],[100]⟩]:=by kernel_rfl
 unfold Qlu Qmz
 rw [if_pos Qcp,if_pos h1,if_pos h2,h3]
theorem Zm2:Qic ex0= .tup [Qas [⟨1000,3000,1,[120, -20],[8, -16,8],[50]⟩],.int .i64 0]:=by
 have h3:revP ex0=[⟨1000,3000,1,[120, -20],[8, -16,8],[50]⟩]:=by kernel_rfl
 unfold Qic
 rw [if_pos Qcp,h3]
theorem Zm3: ∀s∈ex0,Qvl s:=by unfold Qvl;decide+kernel
theorem Zhf:Qxj ex0 ex0= .tup [Qas [],.int .i64 10]:=by
 have h: ¬Qq1 ex0 ex0=true:=by decide+kernel
 unfold Qxj
 rw [if_pos ⟨Qcp,Qcp⟩,if_neg h]
theorem Zhg:Qxj ex0 exS= .tup [Qas (ex0++exS),.int .i64 0]:=by
 have h:Qq1 ex0 exS=true:=by decide+kernel
 have h2:Qbj exS=true:=by decide+kernel
 unfold Qxj
 rw [if_pos ⟨Qcp,h2⟩,if_pos h];rfl
end Go.Proofs.YtlpiamlgibomhaaGreat

namespace Go.Proofs.YtlpiamlgibomhaaGreat
open Go.Vl Go.RowKit Go.Dg
theorem Q1k:Qaf Tryz.prog 45 [] (Qas ex0):=by
 refine Qac (tb:=[]) 6 [.tmp 0] [0] mixed Tryz.func45 rfl (by kernel_rfl) (by kernel_rfl) (by kernel_rfl) (by kernel_rfl) ?_
 repeat (first|(simp -implicitDefEqProofs only [go_sem,Nat.reduceAdd,Nat.reduceMul,Nat.reduceEqDiff,Nat.reduceLT,Nat.reduceLeDiff,reduceCtorEq]))
 rfl
theorem Q8q:Qdf Tryz.prog 45 [] [] (.bs 104 6 0 1) [(104,{els:=ex0.map sgPV,esz:=6,ety:=24,fro:=0,live:=true,arr:=true})]:=by
 refine Qc3 (tb:=[]) 6 [.tmp 0] [0] mixed Tryz.func45 rfl (by kernel_rfl) (by kernel_rfl) (by kernel_rfl) (by kernel_rfl) (by rfl) ?_
 repeat (first|(simp -implicitDefEqProofs only [go_sem,Nat.reduceAdd,Nat.reduceMul,Nat.reduceEqDiff,Nat.reduceLT,Nat.reduceLeDiff,reduceCtorEq]))
 refine Qb5 (.inl rfl) ?_
 simp -implicitDefEqProofs only [go_sem]
 refine Qak (θ:=[(104,104)]) rfl ?_ ?_
 ·simp [Qad,lkp,ren1,ren0,Qao]
 ·exact⟨⟨rfl,rfl,rfl,rfl,rfl,.inl ⟨rfl,rfl⟩⟩,trivial⟩
theorem Zhh (t x y z:Int) (ht:i64 t) (h:atPV ex0 t= .tup [vPV x y z,.int .i64 0]):Qaf Tryz.prog 44 [.int .i64 t,.agg [.int .i64 x,.int .i64 y,.int .i64 z]] (.bool true):=by
 have h1:=Q1k
 have h2:=Zpn ex0 t Qid (by decide) ht
 rw [h]at h2
 unfold Qas at h1 h2
 unfold vPV at h2
 generalize ex0.map sgPV=E at*
 refine Qac (tb:=[]) 20 [.tmp 4] [0,1,3,4,5,6] mixed Tryz.func44 rfl (by kernel_rfl) (by kernel_rfl) (by kernel_rfl) (by kernel_rfl) ?_
 repeat (first|(simp -implicitDefEqProofs only [go_sem,Nat.reduceAdd,Nat.reduceMul,Nat.reduceEqDiff,Nat.reduceLT,Nat.reduceLeDiff,reduceCtorEq,beq_self_eq_true,Qpg])|((with_reducible refine Qab (h1) ?_ ?_ ?_);(with_reducible rfl);rfl)|((with_reducible refine Qab (h2) ?_ ?_ ?_);(with_reducible rfl);rfl))
theorem Zm4 (s w:Sg) (hs: ∀c∈s.ax,c.length≤1000000000) (hw: ∀c∈w.ax,c.length≤1000000000):Qaf Tryz.prog 46 [.slc [sgPV s],.int .i64 0,sgPV w] (.bool (Qjf s w)):=by
 have h:=Qie s w hs hw
 unfold sgPV Qam at h ⊢
 generalize Qjf s w=b at*
 have g0: ∀v:PV,[v][0]? =some v:=fun _=>rfl
 refine Qac (tb:=[]) 21 [.tmp 6] [0,1,2,5,6] mixed Tryz.func46 rfl (by kernel_rfl) (by kernel_rfl) (by kernel_rfl) (by kernel_rfl) ?_
 repeat (first|(simp -implicitDefEqProofs only [go_sem,Nat.reduceAdd,Nat.reduceMul,Nat.reduceEqDiff,Nat.reduceLT,Nat.reduceLeDiff,reduceCtorEq,Qpg,g0,List.length_cons,List.length_nil])|((with_reducible refine Qab (h) ?_ ?_ ?_);(with_reducible rfl);rfl)|(with_reducible exact Qaa _ _ (by kernel_rfl))|(with_reducible refine And.intro (Qaa _ _ (by kernel_rfl)) ?_))
theorem Qq3 (P:List PV) (e w:Int):Qaf Tryz.prog 25 [.slc P,.int .i64 e,.int .i64 w] (.bool ((e==w)&&((P.length:Int)==0))):=by
 refine Qac (tb:=[]) 15 [.tmp 6] [0,1,2,6] mixed Tryz.func25 rfl (by kernel_rfl) (by kernel_rfl) (by kernel_rfl) (by kernel_rfl) ?_
 cases h:(e==w)with
 |true=>repeat (first|(simp -implicitDefEqProofs only [go_sem,Nat.reduceAdd,Nat.reduceMul,Nat.reduceEqDiff,Nat.reduceLT,Nat.reduceLeDiff,reduceCtorEq,h,Bool.true_and]))
 |false=>repeat (first|(simp -implicitDefEqProofs only [go_sem,Nat.reduceAdd,Nat.reduceMul,Nat.reduceEqDiff,Nat.reduceLT,Nat.reduceLeDiff,reduceCtorEq,h,Bool.false_and]))
end Go.Proofs.YtlpiamlgibomhaaGreat

namespace Go.Proofs.YtlpiamlgibomhaaGreat
open Go.Vl Go.RowKit Go.Dg
theorem Qhw (a b:List Sg) (ha:lenP a) (hb:lenP b):Qaf Tryz.prog 24 [Qas a,Qas b] (.bool (Qsu a b)):=by
 have la:=ha.1
 have lb:=hb.1
 by_cases hl:a.length=b.length
 case neg=>
  have n1:((a.length:Int) != (b.length:Int))=true:=by simp only [bne_iff_ne,ne_eq];omega
  unfold Qsu
  rw [decide_eq_false hl,Bool.false_and]
  refine Qac (tb:=[]) 27 [.tmp 4] [0,1,4,5,10,14,26] mixed Tryz.func24 rfl (by kernel_rfl) (by kernel_rfl) (by kernel_rfl) (by kernel_rfl) ?_
  repeat (first|(simp -implicitDefEqProofs only [go_sem,Nat.reduceAdd,Nat.reduceMul,Nat.reduceEqDiff,Nat.reduceLT,Nat.reduceLeDiff,reduceCtorEq,List.length_map,n1])|(with_reducible exact Qaa _ _ (by kernel_rfl))|(with_reducible refine And.intro (Qaa _ _ (by kernel_rfl)) ?_))
 have n1:((a.length:Int) != (b.length:Int))=false:=by rw [hl];simp
 have e0:Qsu a b=Qge a b a.length:=by unfold Qsu;rw [decide_eq_true hl,Bool.true_and]
 rw [e0]
 refine Qac (tb:=[]) 27 [.tmp 4] [0,1,4,5,10,14,26] mixed Tryz.func24 rfl (by kernel_rfl) (by kernel_rfl) (by kernel_rfl) (by kernel_rfl) ?_
 repeat (first|(simp -implicitDefEqProofs only [go_sem,Nat.reduceAdd,Nat.reduceMul,Nat.reduceEqDiff,Nat.reduceLT,Nat.reduceLeDiff,reduceCtorEq,List.length_map,n1])|(with_reducible exact Qaa _ _ (by kernel_rfl))|(with_reducible refine And.intro (Qaa _ _ (by kernel_rfl)) ?_))
 have z0:0≤a.length∧Qge a b 0=true:=⟨Nat.zero_le _,rfl⟩
 refine Qap mixed (fun i:{i:Nat // i≤a.length∧Qge a b i=true}=>St.of [(0,Qas a),(1,Qas b),(4,.bool false),(5,.int .i64 (i.1:Int))] []) (fun i=>a.length-i.1) ⟨0,z0⟩ ?_ ?_
 ·exact Qaz (by simp [Qad,lkp,ren1,ren0,Qas])
 ·rintro⟨i,hi,hall⟩
  by_cases hA:i<a.length
  ·have hA':=ltT hA
   have n0:=nnT i
   have hB:i<b.length:=by omega
   have g1:=Qb1 a i hA
   have g2:=Qb1 b i hB
   have hwk:=Qah (a:=i) (by omega)
   have hs:=Qie a[i] b[i] (ha.2 _ (List.getElem_mem hA)) (hb.2 _ (List.getElem_mem hB))
   have es:Qjf (a.getD i sg0) (b.getD i sg0)=Qjf a[i] b[i]:=by rw [sgD hA,sgD hB]
   unfold sgPV Qam at hs
   cases hx:Qjf a[i] b[i]with
   |true=>
    rw [hx]at hs
    have hn:Qge a b (i+1)=true:=by rw [Qsv,hall,es,hx];rfl
    repeat (first|(simp -implicitDefEqProofs only [go_sem,Nat.reduceAdd,Nat.reduceMul,Nat.reduceEqDiff,Nat.reduceLT,Nat.reduceLeDiff,reduceCtorEq,hA',n0,g1,g2,hwk,Int.toNat_natCast,List.length_map])|((with_reducible refine Qab (hs) ?_ ?_ ?_);(with_reducible rfl);rfl)|(with_reducible exact Qaa _ _ (by kernel_rfl))|(with_reducible refine And.intro (Qaa _ _ (by kernel_rfl)) ?_))
    refine⟨⟨i+1,hA,hn⟩,by simp only;omega,Qaz (by simp [Qad,lkp,ren1,ren0,Qas])⟩
   |false=>
    rw [hx]at hs
    rw [Qw6 (es.trans hx) hA]
    repeat (first|(simp -implicitDefEqProofs only [go_sem,Nat.reduceAdd,Nat.reduceMul,Nat.reduceEqDiff,Nat.reduceLT,Nat.reduceLeDiff,reduceCtorEq,hA',n0,g1,g2,Int.toNat_natCast,List.length_map])|((with_reducible refine Qab (hs) ?_ ?_ ?_);(with_reducible rfl);rfl)|(with_reducible exact Qaa _ _ (by kernel_rfl))|(with_reducible refine And.intro (Qaa _ _ (by kernel_rfl)) ?_))
  ·have hA':=ltF hA
   obtain rfl:i=a.length:=by omega
   repeat (first|(simp -implicitDefEqProofs only [go_sem,Nat.reduceAdd,Nat.reduceMul,Nat.reduceEqDiff,Nat.reduceLT,Nat.reduceLeDiff,reduceCtorEq,hA',hall,List.length_map])|(with_reducible exact Qaa _ _ (by kernel_rfl))|(with_reducible refine And.intro (Qaa _ _ (by kernel_rfl)) ?_))
end Go.Proofs.YtlpiamlgibomhaaGreat

namespace Go.Proofs.YtlpiamlgibomhaaGreat
open Go.Vl Go.RowKit Go.Dg
theorem Zpu (b:ByteArray):(b != b)=false:=by show(!(b==b))=false;rw [Q1t];rfl
theorem Qs5 {s:Sg} (h:(s.ax.all fun c=>Nat.ble c.length 1000)=true): ∀c∈s.ax,c.length≤1000000000:=fun c hc=>by
 have:=Nat.le_of_ble_eq_true (List.all_eq_true.1 h c hc);omega
theorem b210:mB 210=⟨#[210]⟩:=mB_1 (n:=210) (by decide) (by decide)
theorem b1:mB 1=⟨#[1]⟩:=mB_1 (n:=1) (by decide) (by decide)
theorem b100:mB 100=⟨#[100]⟩:=mB_1 (n:=100) (by decide) (by decide)
theorem b2:mB 2=⟨#[2]⟩:=mB_1 (n:=2) (by decide) (by decide)
def exPl:PV:= .agg [.bool false,.str ⟨#[210]⟩,.bool false,.str ⟨#[1]⟩,.bool false,.str ⟨#[100]⟩,.bool false,.str ⟨#[2]⟩]
theorem Qvn:Qae 210 1 100 2=exPl:=by unfold Qae;rw [b210,b1,b100,b2];rfl
theorem kexact:Qaf Tryz.prog 15 [Qas ex0,.int .i64 1500] (.tup [exPl,.int .i64 0]):=by
 have h:=Qvt ex0 1500 Qid (by decide) (by unfold i64;decide)
 obtain⟨q1,q2,q3,q4,q5⟩:=ex_q
 unfold Qph at h
 rwa [if_pos Qcp,if_pos q5,q1,q2,q3,q4,Qvn]at h
theorem krexact:Qaf Tryz.prog 19 [Qas ex0,.int .i64 1500] (Qd5 [210,1,100] 2):=by
 obtain⟨q1,q2,q3,q4,q5⟩:=ex_q
 have h:=Q8z ex0 1500 Qid (by decide) (by unfold i64;decide) Qcp q5
 rwa [q1,q2,q3,q4]at h
theorem kout:Qaf Tryz.prog 20 [Qd5 [210,1,100] 2] exPl:=by
 have h:=Q1r 210 1 100 2 10 (by decide) (by decide) (by decide) (by decide) (by decide)
 rwa [Qvn]at h
theorem Zpv:Qaf Tryz.prog 23 [Qas ex0,.int .i64 2000,.int .i64 3000] (.tup [Qas [⟨2000,3000,1,[110,10],[2,4,2],[50]⟩],.int .i64 0]):=by
 have h:=Q1f ex0 2000 3000 Qid (by decide)
 rwa [Zhd]at h
theorem Zpw:Qaf Tryz.prog 23 [Qas ex0,.int .i64 1000,.int .i64 1500] (.tup [Qas [⟨1000,1500,2,[200,10],[0,0,1],[100]⟩],.int .i64 0]):=by
 have h:=Q1f ex0 1000 1500 Qid (by decide)
 rwa [Zhe]at h
theorem krev:Qaf Tryz.prog 37 [Qas ex0] (.tup [Qas [⟨1000,3000,1,[120, -20],[8, -16,8],[50]⟩],.int .i64 0]):=by
 have h:=Qxk ex0 Qid (by decide) (fun _=>Zm3)
 rwa [Zm2]at h
theorem Zpx:Qaf Tryz.prog 27 [Qas ex0,Qas ex0] (.tup [Qas [],.int .i64 10]):=by
 have h:=Qq2 ex0 ex0 Qid Qid (by decide) (by decide)
 rwa [Zhf]at h
theorem Zpy:Qaf Tryz.prog 27 [Qas ex0,Qas exS] (.tup [Qas (ex0++exS),.int .i64 0]):=by
 have h:=Qq2 ex0 exS Qid Zm0 (by decide) (by decide)
 rwa [Zhg]at h
theorem kone (s:Sg) (h:(s.ax.all fun c=>Nat.ble c.length 1000)=true) (hs:Qjf s s=true):Qaf Tryz.prog 46 [.slc [sgPV s],.int .i64 0,sgPV s] (.bool true):=by
 have:=Zm4 s s (Qs5 h) (Qs5 h)
 rwa [hs]at this
theorem Zff (p:List Sg) (h:p=ex0∨p=exS):Qaf Tryz.prog 24 [Qas p,Qas p] (.bool true):=by
 have hl:lenP p:=by rcases h with rfl|rfl<;>exact⟨by decide,fun s hs=>by rw [List.mem_singleton.1 hs];exact Qs5 rfl⟩
 have h1:=Qhw p p hl hl
 have h2:Qsu p p=true:=by rcases h with rfl|rfl<;>decide+kernel
 rwa [h2]at h1
theorem kvalid (s:Sg) (b:Bool) (h:okB s=true) (h2:Qa2 s=b):Qaf Tryz.prog 13 [sgPV s] (.bool b):=by
 have:=Qvo s (Q1j h)
 rwa [h2]at this
set_option maxHeartbeats 8000000 in
set_option maxRecDepth 100000 in
theorem Qxl:Qaf Tryz.prog 12 [] (.bool true):=by
 have hpath:=Q1k
 have hpathB:=Q8q
 have a0:=Zhh 2000 110 2 50 (by unfold i64;decide) at0
 have a1:=Zhh 1500 105 1 50 (by unfold i64;decide) at1
 have a2:=Zhh 1250 103 0 50 (by unfold i64;decide) at2
 have ke:=kexact
 have kr:=krexact
 have ko:=kout
 have c1:=Zpv
 have c2:=Zpw
 have r1:=krev
 have o1:=kone ⟨2000,3000,1,[110,10],[2,4,2],[50]⟩ rfl (by decide+kernel)
 have o2:=kone ⟨1000,1500,2,[200,10],[0,0,1],[100]⟩ rfl (by decide+kernel)
 have o3:=kone ⟨1000,3000,1,[120, -20],[8, -16,8],[50]⟩ rfl (by decide+kernel)
 have p1:=Zpx
 have p2:=Zpy
 have f1:=Qq3 [] 10 10
 have s1:=Zff ex0 (.inl rfl)
 have s2:=Zff exS (.inr rfl)
 have v1:=kvalid ⟨1000,3000,1,[100,20],[0,0,8],[50,0]⟩ false (by decide+kernel) (by decide+kernel)
 have v2:=kvalid ⟨1000,3000,2,[200],[2],[4]⟩ false (by decide+kernel) (by decide+kernel)
 have v3:=kvalid ⟨1000,3000,1,[100,20],[0,0,8],[50]⟩ true (by decide+kernel) (by decide+kernel)
 have fb:((10:Int)==10&&(([]:List PV).length:Int)==0)=true:=rfl
 rw [fb]at f1
 obtain⟨R1,R2,R3,hR⟩: ∃R1 R2 R3,Qd5 [210,1,100] 2= .agg [.slc R1,.bool R2,.slc R3]:=⟨_,_,_,rfl⟩
 rw [hR]at kr ko
 clear hR
 unfold exPl at ke ko
 simp only [Qas,ex0,exS,sgPV,Qam,List.map_cons,List.map_nil,List.cons_append,List.nil_append]at hpath hpathB ke kr c1 c2 r1 o1 o2 o3 p1 p2 s1 s2 v1 v2 v3
 have g0: ∀v:PV,[v][0]? =some v:=fun _=>rfl
 have bl1:Nat.blt 1700 1000000=true:=rfl
 have bl2:Nat.blt 1701 1000000=true:=rfl

 refine Qac (tb:=[(1700,[],[(104,1700)]),(1701,[],[(104,1701)])]) 193 [.tmp 0] [0,1,2,3,4,5,6,7,8,9,10,11,12,13,14,27,81,109,153] mixed Tryz.func12 rfl (by kernel_rfl) (by kernel_rfl) (by kernel_rfl) (by kernel_rfl) ?_
 repeat (first|(simp -implicitDefEqProofs only [go_sem,Nat.reduceAdd,Nat.reduceMul,Nat.reduceEqDiff,Nat.reduceLT,Nat.reduceLeDiff,reduceCtorEq,Int.reduceNeg,g0,Qlw,Qpg,Bool.not_true,Bool.not_false])|((with_reducible refine Qab (a0) ?_ ?_ ?_);(with_reducible rfl);rfl)|((with_reducible refine Qab (a1) ?_ ?_ ?_);(with_reducible rfl);rfl)|((with_reducible refine Qab (a2) ?_ ?_ ?_);(with_reducible rfl);rfl)|((with_reducible refine Qab (hpath) ?_ ?_ ?_);(with_reducible rfl);rfl)|((with_reducible refine Qab (ke) ?_ ?_ ?_);(with_reducible rfl);rfl)|((with_reducible refine Qab (c1) ?_ ?_ ?_);(with_reducible rfl);rfl)|((with_reducible refine Qab (c2) ?_ ?_ ?_);(with_reducible rfl);rfl)|((with_reducible refine Qab (r1) ?_ ?_ ?_);(with_reducible rfl);rfl)|(with_reducible exact Qaa _ _ (by kernel_rfl))|(with_reducible refine And.intro (Qaa _ _ (by kernel_rfl)) ?_))
 repeat (first|(simp -implicitDefEqProofs only [go_sem,Nat.reduceAdd,Nat.reduceMul,Nat.reduceEqDiff,Nat.reduceLT,Nat.reduceLeDiff,reduceCtorEq,Int.reduceNeg,g0,Qlw,Qpg,Q1t,Zpu,bne_self_eq_false,Bool.not_true,Bool.not_false,beq_self_eq_true])|((with_reducible refine Qab (kr) ?_ ?_ ?_);(with_reducible rfl);rfl)|((with_reducible refine Qab (ko) ?_ ?_ ?_);(with_reducible rfl);rfl)|(with_reducible exact Qaa _ _ (by kernel_rfl))|(with_reducible refine And.intro (Qaa _ _ (by kernel_rfl)) ?_))
 repeat (first|(simp -implicitDefEqProofs only [go_sem,Nat.reduceAdd,Nat.reduceMul,Nat.reduceEqDiff,Nat.reduceLT,Nat.reduceLeDiff,reduceCtorEq,Int.reduceNeg,g0,Qlw,Qpg,Bool.not_true,Bool.not_false])|((with_reducible refine Qab (o1) ?_ ?_ ?_);(with_reducible rfl);rfl)|((with_reducible refine Qab (o2) ?_ ?_ ?_);(with_reducible rfl);rfl)|((with_reducible refine Qab (o3) ?_ ?_ ?_);(with_reducible rfl);rfl)|(with_reducible exact Qaa _ _ (by kernel_rfl))|(with_reducible refine And.intro (Qaa _ _ (by kernel_rfl)) ?_))
 repeat (first|(simp -implicitDefEqProofs only [go_sem,Nat.reduceAdd,Nat.reduceMul,Nat.reduceEqDiff,Nat.reduceLT,Nat.reduceLeDiff,reduceCtorEq,Int.reduceNeg,g0,Qlw,Qpg,Bool.not_true,Bool.not_false])|((with_reducible refine Qab (p1) ?_ ?_ ?_);(with_reducible rfl);rfl)|((with_reducible refine Qab (p2) ?_ ?_ ?_);(with_reducible rfl);rfl)|(with_reducible exact Qaa _ _ (by kernel_rfl))|(with_reducible refine And.intro (Qaa _ _ (by kernel_rfl)) ?_))
 repeat (first|(simp -implicitDefEqProofs only [go_sem,Nat.reduceAdd,Nat.reduceMul,Nat.reduceEqDiff,Nat.reduceLT,Nat.reduceLeDiff,reduceCtorEq,Nat.reduceBneDiff,Int.reduceLE,Int.reduceLT,Int.reduceToNat,Int.reduceNeg,g0,Qlw,Qpg,Bool.not_true,Bool.not_false,List.length_cons,List.length_nil,List.take_succ_cons,List.take_zero,List.drop_succ_cons,List.drop_zero,bl1,bl2,bne_self_eq_false])|((with_reducible refine Qab (f1) ?_ ?_ ?_);(with_reducible rfl);rfl)|((with_reducible refine Qab (s1) ?_ ?_ ?_);(with_reducible rfl);rfl)|((with_reducible refine Qab (s2) ?_ ?_ ?_);(with_reducible rfl);rfl)|((with_reducible refine Qb9 (hpathB) ?_ ?_ ?_ ?_);(with_reducible rfl);rfl;rfl)|(with_reducible exact Qaa _ _ (by kernel_rfl))|(with_reducible refine And.intro (Qaa _ _ (by kernel_rfl)) ?_))
 repeat (first|(simp -implicitDefEqProofs only [go_sem,Nat.reduceAdd,Nat.reduceEqDiff,Nat.reduceLT,reduceCtorEq,Int.reduceLT,Int.reduceNeg,g0,List.length_cons,List.length_nil,List.set_cons_zero,List.set_cons_succ,Bool.not_true,Bool.not_false])|((with_reducible refine Qab (v1) ?_ ?_ ?_);(with_reducible rfl);rfl)|((with_reducible refine Qab (v2) ?_ ?_ ?_);(with_reducible rfl);rfl)|((with_reducible refine Qab (v3) ?_ ?_ ?_);(with_reducible rfl);rfl)|(with_reducible exact Qaa _ _ (by kernel_rfl))|(with_reducible refine And.intro (Qaa _ _ (by kernel_rfl)) ?_))
 trace_state
end Go.Proofs.YtlpiamlgibomhaaGreat

namespace Go.Proofs.YtlpiamlgibomhaaGreat
open Go.Vl Go.RowKit
theorem own:ownKnob Tryz.prog.godebug=none:=by kernel_rfl
theorem Zlh:laidOutB Tryz.prog=true:=by kernel_rfl
theorem Zd0 {k:IntKind} {c:List PV} (h:Qcj (.int k) c): ∃n:Int,TT.mk (.int k) c= .int k n∧(Lit.int k n).wf=true:=by
 simp only [Qcj]at h
 obtain⟨x,rfl,hx⟩:=h
 exact⟨x,rfl,hx⟩
theorem Qn2 {n:Int} (h:(Lit.int .i64 n).wf=true): -9223372036854775808≤n∧n≤9223372036854775807:=by
 have:=h
 simp [Lit.wf,IntKind.min,IntKind.max,IntKind.signed,IntKind.bits]at this
 omega
theorem Qps {c:List PV} (h:Qcj (.int .i64) c): ∃n:Int,TT.mk (.int .i64) c= .int .i64 n∧ -9223372036854775808≤n∧n≤9223372036854775807:=by
 obtain⟨n,e,w⟩:=Zd0 h
 exact⟨n,e,Qn2 w⟩
end Go.Proofs.YtlpiamlgibomhaaGreat

namespace Go.Proofs.YtlpiamlgibomhaaGreat
open Go.Vl Go.RowKit Go.Dg
def Q50 (s:Sg):Prop:=i64 s.f∧i64 s.t∧i64 s.o∧ ∀c∈s.ax,(∀x∈c,i64 x)∧c.length≤maxLen
theorem Zom {s:Sg} (h:Q50 s) (hl: ∀c∈s.ax,c.length≤1000):okSg s:=⟨h.1,h.2.1,h.2.2.1,fun c hc=>(h.2.2.2 c hc).1,hl⟩
def segT:TT:= .agg [.int .i64,.int .i64,.int .i64,.slc (.int .i64),.slc (.int .i64),.slc (.int .i64)]
theorem Q51 {n:Int} (h:(Lit.int .i64 n).wf=true):i64 n:=Qn2 h
theorem Qip: ∀ess:List (List PV),(∀c∈ess,Qcj (.int .i64) c)→ ∃l:List Int,ess.map (TT.mk (.int .i64))=l.map (PV.int .i64)∧l.length=ess.length∧ ∀x∈l,i64 x
 | [],_=>⟨[],rfl,rfl,fun _ h=>nomatch h⟩
 |c::cs,h=>by
  obtain⟨n,e,b⟩:=Qps (h c (by simp))
  obtain⟨l,hl,hn,hx⟩:=Qip cs (fun c hc=>h c (by simp [hc]))
  refine⟨n::l,by simp [e,hl],by simp [hn],fun x hx'=> ?_⟩
  cases hx' with
  |head=>exact b
  |tail _ h=>exact hx x h
theorem Zd1 {c:List PV} (h:Qcj segT c): ∃s:Sg,segT.mk c=sgPV s∧Q50 s:=by
 simp only [segT,Qcj,Qgw]at h
 obtain⟨_,_,rfl,⟨f,rfl,hf⟩,_,_,rfl,⟨t,rfl,ht⟩,_,_,rfl,⟨o,rfl,ho⟩,_,_,rfl,⟨ex,rfl,mx,hx⟩,_,_,rfl,⟨ey,rfl,my,hy⟩,_,_,rfl,⟨ez,rfl,mz,hz⟩,rfl⟩:=h
 obtain⟨lx,e1,n1,b1⟩:=Qip ex (fun c hc=>by have:=hx c hc;simpa only [Qcj]using this)
 obtain⟨ly,e2,n2,b2⟩:=Qip ey (fun c hc=>by have:=hy c hc;simpa only [Qcj]using this)
 obtain⟨lz,e3,n3,b3⟩:=Qip ez (fun c hc=>by have:=hz c hc;simpa only [Qcj]using this)
 refine⟨⟨f,t,o,lx,ly,lz⟩,?_,Q51 hf,Q51 ht,Q51 ho,?_⟩
 ·show PV.agg [.int .i64 f,.int .i64 t,.int .i64 o,.slc (ex.map (TT.mk (.int .i64))),.slc (ey.map (TT.mk (.int .i64))),.slc (ez.map (TT.mk (.int .i64)))]=_
  rw [e1,e2,e3];rfl
 ·intro c hc
  simp only [Sg.ax,List.mem_cons,List.not_mem_nil,or_false]at hc
  rcases hc with rfl|rfl|rfl
  ·exact⟨b1,by omega⟩
  ·exact⟨b2,by omega⟩
  ·exact⟨b3,by omega⟩
theorem Q52 {c:List PV} (h:Qcj (.slc segT) c): ∃p:List Sg,TT.mk (.slc segT) c= .slc (p.map sgPV)∧((∀s∈p,Q50 s)∧p.length≤maxLen):=by
 simp only [Qcj]at h
 obtain⟨ess,rfl,hm,h⟩:=h
 have key: ∀ess:List (List PV),(∀c∈ess,Qcj segT c)→ ∃l:List Sg,ess.map segT.mk=l.map sgPV∧l.length=ess.length∧ ∀s∈l,Q50 s:=by
  intro ess
  induction ess with
  |nil=>exact fun _=>⟨[],rfl,rfl,fun _ h=>nomatch h⟩
  |cons c cs ih=>
   intro h
   obtain⟨s,e,b⟩:=Zd1 (h c (by simp))
   obtain⟨l,hl,hn,hx⟩:=ih (fun c hc=>h c (by simp [hc]))
   refine⟨s::l,by simp [e,hl],by simp [hn],fun x hx'=> ?_⟩
   cases hx' with
   |head=>exact b
   |tail _ h=>exact hx x h
 obtain⟨l,e,hn,hx⟩:=key ess h
 exact⟨l,by simp only [TT.mk,List.headD_cons];rw [e],hx,by omega⟩
end Go.Proofs.YtlpiamlgibomhaaGreat

namespace Go.Proofs.YtlpiamlgibomhaaGreat
open Go.Vl Go.RowKit Go.Dg
end Go.Proofs.YtlpiamlgibomhaaGreat

namespace Go.Proofs.YtlpiamlgibomhaaGreat
open Go.Vl Go.RowKit Go.Dg
theorem Zhi (l:List Int):((l.map (PV.int .i64)).all fun e=>e.cells.length==1&&Qbo e.cells)=true:=by
 rw [List.all_map,List.all_eq_true];intro _ _;rfl
set_option maxHeartbeats 1000000 in
theorem Zhj (p:List Sg) (hl:p.length≤100000) (hc: ∀s∈p,∀c∈s.ax,c.length≤100000):Qaf Tryz.prog 22 [Qas p] (Qas p):=by
 unfold Qas
 refine Qac (tb:=[]) 33 [.tmp 2] [0,2,3,4,5,9] mixed Tryz.func22 rfl (by kernel_rfl) (by kernel_rfl) (by kernel_rfl) (by kernel_rfl) ?_
 repeat (first|(simp -implicitDefEqProofs only [go_sem,Nat.reduceAdd,Nat.reduceMul,Nat.reduceEqDiff,Nat.reduceLT,Nat.reduceLeDiff,reduceCtorEq,List.length_map])|(with_reducible exact Qaa _ _ (by kernel_rfl))|(with_reducible refine And.intro (Qaa _ _ (by kernel_rfl)) ?_))
 refine Qap mixed (fun i:{i:Nat // i≤p.length}=>St.of [(0,Qas p),(3,.bs 7 6 0 i.1),(4,.int .i64 (i.1:Int))]
  [(7,{els:=(p.take i.1).map sgPV,esz:=6,ety:=24,fro:=0,live:=true,arr:=true})]) (fun i=>p.length-i.1) ⟨0,Nat.zero_le _⟩ ?_ ?_
 ·refine Qcs 3 7 6 24 rfl rfl rfl (by decide) [(7,7)] rfl ?_ ?_
  ·simp [Qad,lkp,ren1,ren0,Qao,Qas]
  ·exact⟨⟨rfl,rfl,rfl,rfl,rfl,.inl ⟨rfl,rfl⟩⟩,trivial⟩
 ·rintro⟨i,hi⟩
  by_cases hA:i<p.length
  ·have hA':=ltT hA
   have n0:=nnT i
   have hg:=Qb1 p i hA
   have hwk:=Qah (a:=i) (by omega)
   have hs:=hc _ (List.getElem_mem hA)
   have c1:=hs p[i].x (by simp [Sg.ax])
   have c2:=hs p[i].y (by simp [Sg.ax])
   have c3:=hs p[i].z (by simp [Sg.ax])
   have hlt:((p.take i).map sgPV).length=i:=by simp;omega
   have hok:=Qff (p.take i)
   have k1:((i+1)*96≤140737488355328)=True:=eq_true (by omega)
   have k2:(i+1≤maxLen)=True:=eq_true (by unfold maxLen;omega)
   have hts:(p.take (i+1)).map sgPV=(p.take i).map sgPV++[sgPV p[i]]:=by rw [Qa6 p i hA,List.map_append];rfl
   generalize (p.take i).map sgPV=T at*
   generalize p[i]=s at*
   have x1:(s.x.length*8≤140737488355328)=True:=eq_true (by omega)
   have x2:(s.y.length*8≤140737488355328)=True:=eq_true (by omega)
   have x3:(s.z.length*8≤140737488355328)=True:=eq_true (by omega)
   have y1:(s.x.length≤maxLen)=True:=eq_true (by unfold maxLen;omega)
   have y2:(s.y.length≤maxLen)=True:=eq_true (by unfold maxLen;omega)
   have y3:(s.z.length≤maxLen)=True:=eq_true (by unfold maxLen;omega)
   have t1:(s.x.map (PV.int .i64)).take s.x.length=s.x.map (PV.int .i64):=List.take_of_length_le (by simp)
   have t2:(s.y.map (PV.int .i64)).take s.y.length=s.y.map (PV.int .i64):=List.take_of_length_le (by simp)
   have t3:(s.z.map (PV.int .i64)).take s.z.length=s.z.map (PV.int .i64):=List.take_of_length_le (by simp)
   have z1:=Qew s.x
   have z2:=Qew s.y
   have z3:=Qew s.z
   repeat (first|(simp -implicitDefEqProofs only [go_sem,Nat.reduceAdd,Nat.reduceMul,Nat.reduceEqDiff,Nat.reduceLT,Nat.reduceLeDiff,reduceCtorEq,Nat.reduceBneDiff,hA',n0,hg,hwk,hlt,hok,k1,k2,x1,x2,x3,y1,y2,y3,t1,t2,t3,z1,z2,z3,Q1g,Zhi,Int.toNat_natCast,List.length_map])|(with_reducible exact Qaa _ _ (by kernel_rfl))|(with_reducible refine And.intro (Qaa _ _ (by kernel_rfl)) ?_))
   refine⟨⟨i+1,hA⟩,by simp only;omega,Qak (θ:=[(7,703)]) rfl ?_ ?_⟩
   ·simp [Qad,lkp,ren1,ren0,Qao,Qas]
   ·simp only [hts]
    exact⟨⟨rfl,rfl,rfl,rfl,rfl,.inl ⟨rfl,rfl⟩⟩,trivial⟩
  ·have hA':=ltF hA
   obtain rfl:i=p.length:=by omega
   have ht:p.take p.length=p:=List.take_length
   have e1:(p.map sgPV).take p.length=p.map sgPV:=List.take_of_length_le (by simp)
   have e2:=Qff p
   simp only [ht]
   repeat (first|(simp -implicitDefEqProofs only [go_sem,Nat.reduceAdd,Nat.reduceMul,Nat.reduceEqDiff,Nat.reduceLT,Nat.reduceLeDiff,reduceCtorEq,hA',e1,e2,List.length_map])|(with_reducible exact Qaa _ _ (by kernel_rfl))|(with_reducible refine And.intro (Qaa _ _ (by kernel_rfl)) ?_))
end Go.Proofs.YtlpiamlgibomhaaGreat

namespace Go.Proofs.YtlpiamlgibomhaaGreat
open Go.Vl Go.RowKit Go.Dg
theorem Q8r (s:Sg) (a b:Int) (h6: ∀c∈s.ax,c.length≤6): ∀c∈(ptS s a b).ax,c.length≤1000000000:=by
 have key: ∀i,i<3→(mdC (ptL s a b) (ptO s) i).length≤1000000000:=by
  intro i hi
  have h:=Qs2 (a:=a-s.f) (b:=b-a) (d:=s.t-s.f) (h6 _ (Qlr s i hi))
  have e:mdC (ptL s a b) (ptO s) i=mkC (mdG (ptL s a b) (ptO s) 3:Int) (cmpC (s.ax.getD i []) (a-s.f) (b-a) (s.t-s.f)):=rfl
  rw [e,Zg5]
  split<;>omega
 intro c hc
 have e:(ptS s a b).ax=[mdC (ptL s a b) (ptO s) 0,mdC (ptL s a b) (ptO s) 1,mdC (ptL s a b) (ptO s) 2]:=rfl
 rw [e]at hc
 simp only [List.mem_cons,List.not_mem_nil,or_false]at hc
 rcases hc with rfl|rfl|rfl
 ·exact key 0 (by decide)
 ·exact key 1 (by decide)
 ·exact key 2 (by decide)
theorem Q8s {p:List Sg} {f t:Int} (hv: ∀s∈p,Qa2 s=true) (hl:p.length≤100000):lenP ((spans p f t).map spS):=by
 refine⟨by rw [List.length_map];have:=Qgf p f t;omega,fun s hs c hc=> ?_⟩
 obtain⟨x,hx,rfl⟩:=List.mem_map.1 hs
 have h1:=hv _ (Q0q hx).1
 exact Q8r x.1 x.2.1 x.2.2 (fun c hc=>(Qb4 ((Qa3 h1).2.1 c hc)).2.1) c hc
theorem refd (e:Int):Qaf Tryz.prog 25 [.slc [],.int .i64 e,.int .i64 e] (.bool true):=by
 have h:=Qq3 [] e e
 have:((e==e)&&((([]:List PV).length:Int)==0))=true:=by simp
 rwa [this]at h
set_option maxHeartbeats 4000000 in
theorem Qpc (p:List Sg) (hr:(∀s∈p,Q50 s)∧p.length≤maxLen) (f:Int) (f1: -9223372036854775808≤f) (f2:f≤9223372036854775807) (t:Int) (t1: -9223372036854775808≤t) (t2:t≤9223372036854775807):
  Qaf Tryz.prog 5 [.slc (p.map sgPV),.int .i64 f,.int .i64 t] (.bool true):=by
 have hk:=Qxl
 have hf:=Zm7 p 6 (by decide) hr.2
 unfold Qas at hf
 cases hF:fewB p 6 with
 |false=>
  rw [hF]at hf
  refine Qac (tb:=[]) 84 [.tmp 6] [0,1,2,6,7,8,9,10,11,14,28,31,52,67] mixed Tryz.func5 rfl (by kernel_rfl) (by kernel_rfl) (by kernel_rfl) (by kernel_rfl) ?_
  repeat (first|(simp -implicitDefEqProofs only [go_sem,Nat.reduceAdd,Nat.reduceMul,Nat.reduceEqDiff,Nat.reduceLT,Nat.reduceLeDiff,reduceCtorEq,Bool.not_false])|((with_reducible refine Qab (hf) ?_ ?_ ?_);(with_reducible rfl);rfl)|((with_reducible refine Qab (hk) ?_ ?_ ?_);(with_reducible rfl);rfl))
 |true=>
  rw [hF]at hf
  obtain⟨l6,l8⟩:=Qw9 hF
  have hp: ∀s∈p,okSg s:=fun s hs=>Zom (hr.1 s hs) (fun c hc=>by have:=l8 s hs c hc;omega)
  have hcp:=Zhj p (by omega) (fun s hs c hc=>by have:=l8 s hs c hc;omega)
  have hcu:=Q1f p f t hp (by omega)
  have hlp:lenP p:=⟨by omega,fun s hs c hc=>by have:=l8 s hs c hc;omega⟩
  have hsm:=Qhw p p hlp hlp
  rw [Qnn]at hsm
  have hv:=Qq9 p hp (by omega)
  unfold Qlu at hcu
  unfold Qas at hcp hcu hsm hv
  have r2:=refd 2
  have r3:=refd 3
  have r7:=refd 7
  cases hV:Qbj p with
  |false=>
   rw [hV]at hcu hv
   simp only [Bool.false_eq_true,if_false,List.map_nil]at hcu
   refine Qac (tb:=[]) 84 [.tmp 6] [0,1,2,6,7,8,9,10,11,14,28,31,52,67] mixed Tryz.func5 rfl (by kernel_rfl) (by kernel_rfl) (by kernel_rfl) (by kernel_rfl) ?_
   repeat (first|(simp -implicitDefEqProofs only [go_sem,Nat.reduceAdd,Nat.reduceMul,Nat.reduceEqDiff,Nat.reduceLT,Nat.reduceLeDiff,reduceCtorEq,Bool.not_true,Bool.not_false])|((with_reducible refine Qab (hf) ?_ ?_ ?_);(with_reducible rfl);rfl)|((with_reducible refine Qab (hcp) ?_ ?_ ?_);(with_reducible rfl);rfl)|((with_reducible refine Qab (hcu) ?_ ?_ ?_);(with_reducible rfl);rfl)|((with_reducible refine Qab (hsm) ?_ ?_ ?_);(with_reducible rfl);rfl)|((with_reducible refine Qab (hv) ?_ ?_ ?_);(with_reducible rfl);rfl)|((with_reducible refine Qab (r2) ?_ ?_ ?_);(with_reducible rfl);rfl)|((with_reducible refine Qab (hk) ?_ ?_ ?_);(with_reducible rfl);rfl))
  |true=>
   have hpos:=(Qb6 hV).2.1
   have q1:=Qvs p f (by omega) (by omega)
   have q2:=Qvs p t (by omega) (by omega)
   rw [hV]at hcu hv
   simp only [if_true]at hcu
   unfold Qas at q1 q2
   by_cases hft:f<t
   ·have hft':(t≤f)=False:=eq_false (by omega)
    cases hL1:lasts p f with
    |false=>
     rw [hL1]at q1
     rw [if_neg (by unfold lasts at hL1;intro⟨e1,e2,e3⟩;simp at hL1;omega)]at hcu
     simp only [List.map_nil]at hcu
     refine Qac (tb:=[]) 84 [.tmp 6] [0,1,2,6,7,8,9,10,11,14,28,31,52,67] mixed Tryz.func5 rfl (by kernel_rfl) (by kernel_rfl) (by kernel_rfl) (by kernel_rfl) ?_
     repeat (first|(simp -implicitDefEqProofs only [go_sem,Nat.reduceAdd,Nat.reduceMul,Nat.reduceEqDiff,Nat.reduceLT,Nat.reduceLeDiff,reduceCtorEq,hft',decide_false,Bool.not_true,Bool.not_false])|((with_reducible refine Qab (hf) ?_ ?_ ?_);(with_reducible rfl);rfl)|((with_reducible refine Qab (hcp) ?_ ?_ ?_);(with_reducible rfl);rfl)|((with_reducible refine Qab (hcu) ?_ ?_ ?_);(with_reducible rfl);rfl)|((with_reducible refine Qab (hsm) ?_ ?_ ?_);(with_reducible rfl);rfl)|((with_reducible refine Qab (hv) ?_ ?_ ?_);(with_reducible rfl);rfl)|((with_reducible refine Qab (q1) ?_ ?_ ?_);(with_reducible rfl);rfl)|((with_reducible refine Qab (r3) ?_ ?_ ?_);(with_reducible rfl);rfl)|((with_reducible refine Qab (hk) ?_ ?_ ?_);(with_reducible rfl);rfl))
    |true=>
     rw [hL1]at q1
     cases hL2:lasts p t with
     |false=>
      rw [hL2]at q2
      rw [if_neg (by unfold lasts at hL2;intro⟨e1,e2,e3⟩;simp at hL2;omega)]at hcu
      simp only [List.map_nil]at hcu
      refine Qac (tb:=[]) 84 [.tmp 6] [0,1,2,6,7,8,9,10,11,14,28,31,52,67] mixed Tryz.func5 rfl (by kernel_rfl) (by kernel_rfl) (by kernel_rfl) (by kernel_rfl) ?_
      repeat (first|(simp -implicitDefEqProofs only [go_sem,Nat.reduceAdd,Nat.reduceMul,Nat.reduceEqDiff,Nat.reduceLT,Nat.reduceLeDiff,reduceCtorEq,hft',decide_false,Bool.not_true,Bool.not_false])|((with_reducible refine Qab (hf) ?_ ?_ ?_);(with_reducible rfl);rfl)|((with_reducible refine Qab (hcp) ?_ ?_ ?_);(with_reducible rfl);rfl)|((with_reducible refine Qab (hcu) ?_ ?_ ?_);(with_reducible rfl);rfl)|((with_reducible refine Qab (hsm) ?_ ?_ ?_);(with_reducible rfl);rfl)|((with_reducible refine Qab (hv) ?_ ?_ ?_);(with_reducible rfl);rfl)|((with_reducible refine Qab (q1) ?_ ?_ ?_);(with_reducible rfl);rfl)|((with_reducible refine Qab (q2) ?_ ?_ ?_);(with_reducible rfl);rfl)|((with_reducible refine Qab (r3) ?_ ?_ ?_);(with_reducible rfl);rfl)|((with_reducible refine Qab (hk) ?_ ?_ ?_);(with_reducible rfl);rfl))
     |true=>
      rw [hL2]at q2
      rw [if_pos (by unfold lasts at hL1 hL2;simp at hL1 hL2;omega)]at hcu
      have hvs:=Qg2 hV
      have hrc:=Zmu p f t hp hvs (by omega)
      have hlc:=Q8s (f:=f) (t:=t) hvs (show p.length≤100000 by omega)
      have hsc:=Qhw _ _ hlc hlc
      rw [Qnn]at hsc
      unfold Qmz at hcu
      unfold cutR at hrc
      unfold Qas at hcu hrc hsc
      generalize ((spans p f t).map spS).map sgPV=C at*
      by_cases hall:(spans p f t).all spF=true
      ·rw [if_pos hall]at hcu hrc
       refine Qac (tb:=[]) 84 [.tmp 6] [0,1,2,6,7,8,9,10,11,14,28,31,52,67] mixed Tryz.func5 rfl (by kernel_rfl) (by kernel_rfl) (by kernel_rfl) (by kernel_rfl) ?_
       repeat (first|(simp -implicitDefEqProofs only [go_sem,Nat.reduceAdd,Nat.reduceMul,Nat.reduceEqDiff,Nat.reduceLT,Nat.reduceLeDiff,reduceCtorEq,hft',decide_false,Qpg,Bool.not_true,Bool.not_false])|((with_reducible refine Qab (hf) ?_ ?_ ?_);(with_reducible rfl);rfl)|((with_reducible refine Qab (hcp) ?_ ?_ ?_);(with_reducible rfl);rfl)|((with_reducible refine Qab (hcu) ?_ ?_ ?_);(with_reducible rfl);rfl)|((with_reducible refine Qab (hsm) ?_ ?_ ?_);(with_reducible rfl);rfl)|((with_reducible refine Qab (hv) ?_ ?_ ?_);(with_reducible rfl);rfl)|((with_reducible refine Qab (q1) ?_ ?_ ?_);(with_reducible rfl);rfl)|((with_reducible refine Qab (q2) ?_ ?_ ?_);(with_reducible rfl);rfl)|((with_reducible refine Qab (hrc) ?_ ?_ ?_);(with_reducible rfl);rfl)|((with_reducible refine Qab (hsc) ?_ ?_ ?_);(with_reducible rfl);rfl)|((with_reducible refine Qab (hk) ?_ ?_ ?_);(with_reducible rfl);rfl))
      ·rw [if_neg hall]at hcu hrc
       simp only [List.map_nil]at hcu hrc
       refine Qac (tb:=[]) 84 [.tmp 6] [0,1,2,6,7,8,9,10,11,14,28,31,52,67] mixed Tryz.func5 rfl (by kernel_rfl) (by kernel_rfl) (by kernel_rfl) (by kernel_rfl) ?_
       repeat (first|(simp -implicitDefEqProofs only [go_sem,Nat.reduceAdd,Nat.reduceMul,Nat.reduceEqDiff,Nat.reduceLT,Nat.reduceLeDiff,reduceCtorEq,hft',decide_false,Bool.not_true,Bool.not_false])|((with_reducible refine Qab (hf) ?_ ?_ ?_);(with_reducible rfl);rfl)|((with_reducible refine Qab (hcp) ?_ ?_ ?_);(with_reducible rfl);rfl)|((with_reducible refine Qab (hcu) ?_ ?_ ?_);(with_reducible rfl);rfl)|((with_reducible refine Qab (hsm) ?_ ?_ ?_);(with_reducible rfl);rfl)|((with_reducible refine Qab (hv) ?_ ?_ ?_);(with_reducible rfl);rfl)|((with_reducible refine Qab (q1) ?_ ?_ ?_);(with_reducible rfl);rfl)|((with_reducible refine Qab (q2) ?_ ?_ ?_);(with_reducible rfl);rfl)|((with_reducible refine Qab (hrc) ?_ ?_ ?_);(with_reducible rfl);rfl)|((with_reducible refine Qab (r7) ?_ ?_ ?_);(with_reducible rfl);rfl)|((with_reducible refine Qab (hk) ?_ ?_ ?_);(with_reducible rfl);rfl))
   ·have hft':(t≤f)=True:=eq_true (by omega)
    rw [if_neg (by omega)]at hcu
    simp only [List.map_nil]at hcu
    refine Qac (tb:=[]) 84 [.tmp 6] [0,1,2,6,7,8,9,10,11,14,28,31,52,67] mixed Tryz.func5 rfl (by kernel_rfl) (by kernel_rfl) (by kernel_rfl) (by kernel_rfl) ?_
    repeat (first|(simp -implicitDefEqProofs only [go_sem,Nat.reduceAdd,Nat.reduceMul,Nat.reduceEqDiff,Nat.reduceLT,Nat.reduceLeDiff,reduceCtorEq,hft',decide_true,Bool.not_true,Bool.not_false])|((with_reducible refine Qab (hf) ?_ ?_ ?_);(with_reducible rfl);rfl)|((with_reducible refine Qab (hcp) ?_ ?_ ?_);(with_reducible rfl);rfl)|((with_reducible refine Qab (hcu) ?_ ?_ ?_);(with_reducible rfl);rfl)|((with_reducible refine Qab (hsm) ?_ ?_ ?_);(with_reducible rfl);rfl)|((with_reducible refine Qab (hv) ?_ ?_ ?_);(with_reducible rfl);rfl)|((with_reducible refine Qab (r3) ?_ ?_ ?_);(with_reducible rfl);rfl)|((with_reducible refine Qab (hk) ?_ ?_ ?_);(with_reducible rfl);rfl))
end Go.Proofs.YtlpiamlgibomhaaGreat
