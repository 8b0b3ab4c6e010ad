/-
  HI10, HI11, HI12, US2, HR20 (merged for the claim).
-/
import Derived.Test.YtciddhkfbgkejaaGreatDoorUYD
import Derived.Test.YtciddhkfbgkejaaGreatDoorDsr
import Derived.Test.YtciddhkfbgkejaaGreatDoorHM3
import Derived.Test.YtciddhkfbgkejaaGreatDoorHI2
import Derived.Test.YtciddhkfbgkejaaGreatDoorDsj
import Derived.Test.YtciddhkfbgkejaaGreatDoorUXS
import Derived.Test.YtciddhkfbgkejaaGreatDoorHA2
import Derived.LaidMore
import Derived.OpenShut
import Derived.Stop.Joined
import Derived.Test.YtciddhkfbgkejaaGreatDoorRows
import Derived.Test.YtciddhkfbgkejaaGreatDoorTie
import Derived.Test.YtciddhkfbgkejaaGreatDoorCards
import Derived.SevenTiedAt
import Derived.LaidSub
import Derived.MakeChecks
import Derived.Lib.LaidTab
set_option linter.unusedSimpArgs false
set_option linter.unusedVariables false
namespace Go.Proofs.YtciddhkfbgkejaaGreatDoor
open Go.Vl Go.RowKit Go.Dg
theorem Q1x {n:Int}: ∀{l:List Int},(∀x∈l,x<n)→putI n l=l++[n]
 | [],_=>rfl
 |x::l,h=>by
  have hx:=h x (by simp)
  simp only [putI]
  rw [if_neg (by omega),Q1x fun y hy=>h y (by simp [hy])];rfl
theorem Qt0 {n y:Int}: ∀{a b:List Int},(∀x∈a,x<n)→n<y→putI n (a++y::b)=a++n::y::b
 | [],b,_,h=>by simp [putI,h]
 |x::a,b,h,hy=>by
  have hx:=h x (by simp)
  simp only [List.cons_append,putI]
  rw [if_neg (by omega),Qt0 (fun z hz=>h z (by simp [hz])) hy]
def insB (n:Int) (l:List Int) (i:Nat) (b:Bool):List Int:=if b then putI n (l.take i)else l.take i
theorem Qhz (L:List Int) (i:Nat) (h:i<L.length):(L.map (PV.int .i64))[i]? =some (.int .i64 L[i]):=by rw [List.getElem?_map,List.getElem?_eq_getElem h];rfl
structure InsI (n:Int) (l:List Int) (i:Nat) (b:Bool):Prop where
 hi:i≤l.length
 no: ∀x∈l.take i,x≠n
 low:b=false→ ∀x∈l.take i,x<n
 put:b=true→putI n l=putI n (l.take i)++l.drop i
 up:b=true→ ∀x∈l.drop i,n<x
theorem Qd6 {l:List Int} {i:Nat} (h:i<l.length) {x:Int} (hx:x∈l.take (i+1)):x∈l.take i∨x=l[i]:=by
 rw [Qa1 l i h,List.mem_append,List.mem_singleton]at hx;exact hx
theorem Zhc {l:List Int} (hs:l.Pairwise (· < ·)) {i:Nat} (h:i<l.length): ∀x∈l.drop (i+1),l[i]<x:=by
 have h1:(l.drop i).Pairwise (· < ·):=hs.sublist (List.drop_sublist i l)
 rw [List.drop_eq_getElem_cons h,List.pairwise_cons]at h1
 exact h1.1
set_option maxHeartbeats 8000000 in
theorem Qwk (l:List Int) (n:Int) (hs:l.Pairwise (· < ·)) (hl:l.length≤1000):Qag Tryz.prog 100 [.slc (l.map (PV.int .i64)),.int .i64 n] (.slc ((insU n l).map (PV.int .i64))):=by
 refine Qac (tb:=[]) 49 [.tmp 4] [0,1,4,5,6,7,11,19,30,43] mixed Tryz.func100 rfl (by kernel_rfl) (by kernel_rfl) (by kernel_rfl) (by kernel_rfl) ?_
 repeat (first|(simp -implicitDefEqProofs only [go_sem,Nat.reduceAdd,Nat.reduceMul,Nat.reduceEqDiff,Nat.reduceLT,Nat.reduceLeDiff,reduceCtorEq]))
 refine Qar mixed (fun x:{x:Nat×Bool // InsI n l x.1 x.2}=>St.of [(0,.slc (l.map (PV.int .i64))),(1,.int .i64 n),(5,.bs 7 1 0 (insB n l x.1.1 x.1.2).length),(6,.bool x.1.2),(7,.int .i64 (x.1.1:Int))] [(7,iB1 (insB n l x.1.1 x.1.2))]) (fun x=>l.length-x.1.1) ⟨(0,false),Nat.zero_le _,by simp,by simp,by simp,by simp⟩ ?_ ?_
 ·refine Qf8 5 7 1 3 rfl rfl rfl (by decide) [(7,7)] rfl ?_ ?_
  ·simp [Qad,lkp,ren1,ren0,Qal,insB]
  ·exact⟨⟨rfl,rfl,rfl,rfl,rfl,.inl ⟨rfl,rfl⟩⟩,trivial⟩
 rintro⟨⟨i,b⟩,hi,hno,hlow,hput,hup⟩
 simp only at hi hno hlow hput hup ⊢
 have hlb:(insB n l i b).length≤i+1:=by
  unfold insB;split
  ·rw [Qpc];simp;omega
  ·simp;omega
 by_cases hA:i<l.length
 ·have hA':=ltT hA
  have n0:=nnT i
  have hg:=Qhz l i hA
  have hwk:=Qai (a:=i) (by omega)
  have hok:=Qen (insB n l i b)
  have hpd:=Zhc hs hA
  by_cases he:l[i]=n
  ·have he':(l[i]==n)=true:=by rw [he];exact beq_self_eq_true _
   have hin:n∈l:=by rw [←he];exact List.getElem_mem hA
   have hu:insU n l=l:=by unfold insU;rw [if_pos hin]
   rw [hu]
   repeat (first|(simp -implicitDefEqProofs only [go_sem,Nat.reduceAdd,Nat.reduceMul,Nat.reduceEqDiff,Nat.reduceLT,Nat.reduceLeDiff,reduceCtorEq,hA',n0,hg,he',Int.toNat_natCast,List.length_map]))
  have he':(l[i]==n)=false:=by simpa using he
  cases b with
  |true=>
   have hB:insB n l (i+1) true=insB n l i true++[l[i]]:=by
    have h1:=hput rfl
    have h3:=hup rfl l[i] (by rw [List.drop_eq_getElem_cons hA];exact List.mem_cons_self ..)
    unfold insB
    simp only [if_true]
    have e1:(l.take (i+1))=l.take i++[l[i]]:=Qa1 l i hA
    rw [e1]
    have h4:putI n l=putI n (l.take i)++l.drop i:=h1
    have h5:putI n (l.take (i+1)++l.drop (i+1))=putI n (l.take i)++l.drop i:=by rw [List.take_append_drop];exact h4
    have h6: ∀(a c:List Int) (y:Int),n<y→putI n (a++y::c)=putI n (a++[y])++c:=by
     intro a
     induction a with
     |nil=>intro c y hy;simp [putI,hy]
     |cons z a ih=>
      intro c y hy
      simp only [List.cons_append,putI]
      split
      ·simp
      ·rw [ih c y hy];rfl
    rw [e1,List.append_assoc,List.singleton_append,h6 _ _ _ h3]at h5
    rw [List.drop_eq_getElem_cons hA]at h5
    have h7:putI n (l.take i)++l[i]::l.drop (i+1)=(putI n (l.take i)++[l[i]])++l.drop (i+1):=by simp
    rw [h7]at h5
    exact List.append_cancel_right h5
   have hinv:InsI n l (i+1) true:=⟨hA,fun x hx=>by
    rcases Qd6 hA hx with h|h
    ·exact hno x h
    ·rw [h];exact he,by simp,fun _=>by
     have h1:=hput rfl
     have hB2:=hB
     unfold insB at hB2
     simp only [if_true]at hB2
     rw [h1,hB2,List.drop_eq_getElem_cons hA];simp,fun _ x hx=>hup rfl x (by rw [List.drop_eq_getElem_cons hA];exact List.mem_cons_of_mem _ hx)⟩
   generalize hB2:insB n l (i+1) true=B2 at*
   generalize insB n l i true=B1 at*
   generalize l[i]=y at*
   have k1:((B1.length+1)*8≤140737488355328)=True:=eq_true (by omega)
   have k2:(B1.length+1≤maxLen)=True:=eq_true (by unfold maxLen;omega)
   repeat (first|(simp -implicitDefEqProofs only [go_sem,Nat.reduceAdd,Nat.reduceMul,Nat.reduceEqDiff,Nat.reduceLT,Nat.reduceLeDiff,reduceIte,reduceCtorEq,Nat.reduceBneDiff,hA',n0,hg,he',hwk,hok,k1,k2,Bool.not_true,Int.toNat_natCast,List.length_map]))
   refine⟨⟨(i+1,true),hinv⟩,by simp only;omega,Qaj (θ:=[(7,1006)]) rfl ?_ ?_⟩
   ·simp only [hB2,hB]
    simp [Qad,lkp,ren1,ren0,Qal]
   ·simp only [hB2,hB]
    refine⟨⟨rfl,rfl,rfl,rfl,rfl,.inl ⟨rfl,?_⟩⟩,trivial⟩
    simp
  |false=>
   have hlow:=hlow rfl
   by_cases hy:n<l[i]
   ·have hy':=eq_true hy
    have e1:(l.take (i+1))=l.take i++[l[i]]:=Qa1 l i hA
    have hp1:putI n (l.take (i+1))=l.take i++[n]++[l[i]]:=by
     rw [e1,Qt0 hlow hy];simp
    have hB:insB n l (i+1) true=insB n l i false++[n]++[l[i]]:=by unfold insB;simp only [if_true,Bool.false_eq_true,if_false];exact hp1
    have hinv:InsI n l (i+1) true:=⟨hA,fun x hx=>by
     rcases Qd6 hA hx with h|h
     ·exact hno x h
     ·rw [h];exact he,by simp,fun _=>by
      rw [hp1]
      conv=>lhs;rw [←List.take_append_drop i l,List.drop_eq_getElem_cons hA,Qt0 hlow hy]
      simp,fun _ x hx=>by have:=hpd x hx;omega⟩
    generalize hB2:insB n l (i+1) true=B2 at*
    generalize insB n l i false=B1 at*
    generalize l[i]=y at*
    have hok2:=Qen (B1++[n])
    have k1:((B1.length+1)*8≤140737488355328)=True:=eq_true (by omega)
    have k2:(B1.length+1≤maxLen)=True:=eq_true (by unfold maxLen;omega)
    have k3:((B1.length+1+1)*8≤140737488355328)=True:=eq_true (by omega)
    have k4:(B1.length+1+1≤maxLen)=True:=eq_true (by unfold maxLen;omega)
    have hok3:((((B1.map (PV.int .i64))++[PV.int .i64 n]).flatMap PV.cells).all PV.okCell)=true:=by
     have:=Qen (B1++[n])
     rwa [List.map_append]at this
    have hl3:(B1.map (PV.int .i64)++[PV.int .i64 n]).length=B1.length+1:=by simp
    repeat (first|(simp -implicitDefEqProofs only [go_sem,Nat.reduceAdd,Nat.reduceMul,Nat.reduceEqDiff,Nat.reduceLT,Nat.reduceLeDiff,reduceIte,reduceCtorEq,Nat.reduceBneDiff,hA',n0,hg,he',hy',hwk,hok,hok3,hl3,k1,k2,k3,k4,Bool.not_false,decide_true,Int.toNat_natCast,List.length_map]))
    refine⟨⟨(i+1,true),hinv⟩,by simp only;omega,Qaj (θ:=[(7,1006)]) rfl ?_ ?_⟩
    ·simp only [hB2,hB]
     simp [Qad,lkp,ren1,ren0,Qal]
    ·simp only [hB2,hB]
     refine⟨⟨rfl,rfl,rfl,rfl,rfl,.inl ⟨rfl,?_⟩⟩,trivial⟩
     simp
   ·have hy':=eq_false hy
    have hB:insB n l (i+1) false=insB n l i false++[l[i]]:=by unfold insB;simp only [Bool.false_eq_true,if_false];exact Qa1 l i hA
    have hinv:InsI n l (i+1) false:=⟨hA,fun x hx=>by
     rcases Qd6 hA hx with h|h
     ·exact hno x h
     ·rw [h];exact he,fun _ x hx=>by
     rcases Qd6 hA hx with h|h
     ·exact hlow x h
     ·rw [h];omega,by simp,by simp⟩
    generalize hB2:insB n l (i+1) false=B2 at*
    generalize insB n l i false=B1 at*
    generalize l[i]=y at*
    have k1:((B1.length+1)*8≤140737488355328)=True:=eq_true (by omega)
    have k2:(B1.length+1≤maxLen)=True:=eq_true (by unfold maxLen;omega)
    repeat (first|(simp -implicitDefEqProofs only [go_sem,Nat.reduceAdd,Nat.reduceMul,Nat.reduceEqDiff,Nat.reduceLT,Nat.reduceLeDiff,reduceIte,reduceCtorEq,Nat.reduceBneDiff,hA',n0,hg,he',hy',hwk,hok,k1,k2,Bool.not_false,decide_false,Int.toNat_natCast,List.length_map]))
    refine⟨⟨(i+1,false),hinv⟩,by simp only;omega,Qaj (θ:=[(7,1006)]) rfl ?_ ?_⟩
    ·simp only [hB2,hB]
     simp [Qad,lkp,ren1,ren0,Qal]
    ·simp only [hB2,hB]
     refine⟨⟨rfl,rfl,rfl,rfl,rfl,.inl ⟨rfl,?_⟩⟩,trivial⟩
     simp
 ·have hA':=ltF hA
  obtain rfl:i=l.length:=by omega
  rw [List.take_length]at hno hlow hput
  have hnin:n ∉ l:=fun h=>hno n h rfl
  have hu:insU n l=putI n l:=by unfold insU;rw [if_neg hnin]
  rw [hu]
  cases b with
  |true=>
   have hB:insB n l l.length true=putI n l:=by unfold insB;rw [List.take_length];rfl
   rw [hB]
   have hok:=Qen (putI n l)
   have ht:((putI n l).map (PV.int .i64)).take (putI n l).length=(putI n l).map (PV.int .i64):=List.take_of_length_le (by simp)
   generalize putI n l=B1 at*
   repeat (first|(simp -implicitDefEqProofs only [go_sem,Nat.reduceAdd,Nat.reduceMul,Nat.reduceEqDiff,Nat.reduceLT,Nat.reduceLeDiff,reduceIte,reduceCtorEq,hA',ht,hok,Bool.not_true,List.length_map]))
  |false=>
   have hB:insB n l l.length false=l:=by unfold insB;rw [List.take_length];rfl
   have hp:=Q1x (hlow rfl)
   rw [hB,hp]
   have hok:=Qen l
   have hok3:((((l.map (PV.int .i64))++[PV.int .i64 n]).flatMap PV.cells).all PV.okCell)=true:=by
    have:=Qen (l++[n])
    rwa [List.map_append]at this
   have k1:((l.length+1)*8≤140737488355328)=True:=eq_true (by omega)
   have k2:(l.length+1≤maxLen)=True:=eq_true (by unfold maxLen;omega)
   have ht:(l.map (PV.int .i64)++[PV.int .i64 n]).take (l.length+1)=l.map (PV.int .i64)++[PV.int .i64 n]:=List.take_of_length_le (by simp)
   have hl3:(l.map (PV.int .i64)++[PV.int .i64 n]).length=l.length+1:=by simp
   have hm:(l++[n]).map (PV.int .i64)=l.map (PV.int .i64)++[PV.int .i64 n]:=by simp
   rw [hm]
   repeat (first|(simp -implicitDefEqProofs only [go_sem,Nat.reduceAdd,Nat.reduceMul,Nat.reduceEqDiff,Nat.reduceLT,Nat.reduceLeDiff,reduceIte,reduceCtorEq,Nat.reduceBneDiff,hA',ht,hok,hok3,hl3,k1,k2,Bool.not_false,List.length_map]))
def nmU (k:Nat) (l:List Wd) (i:Nat):List Int:=insL [] (allE k (l.take i))
theorem Qx8 (k:Nat) (l:List Wd) (i:Nat):(nmU k l i).Pairwise (· < ·):=Qhx _ _ List.Pairwise.nil
theorem Qmb (k:Nat) (l:List Wd) (i:Nat) (h:i≤l.length) (h8:l.length≤8):(nmU k l i).length≤16:=by
 have h1:=Qwd (allE k (l.take i)) []
 rw [Qe1]at h1
 simp only [List.length_nil,List.length_take]at h1
 unfold nmU;omega
theorem Q9i (k:Nat) {l:List Wd} {i:Nat} (h:i<l.length) {a b:Int} (he:Qc5 k l[i]=[a,b]):nmU k l (i+1)=insU b (insU a (nmU k l i)):=by
 unfold nmU
 rw [Qa1 l i h,Qrm,Qwb,he];rfl
theorem Qmc (k:Nat) (l:List Wd):nmU k l l.length=numE k l:=by
 unfold nmU numE;rw [List.take_length,Zg3]
theorem Qii (k:Nat) (hk:k≤3) (l:List Wd) (hv:Qau l=true):Qag Tryz.prog 59 [wsPV l,.int .i64 (k:Int)] (.slc ((numE k l).map (PV.int .i64))):=by
 obtain⟨hvw,h8⟩:=Qba hv
 refine Qac (tb:=[]) 59 [.tmp 4] [0,1,4,5,6,7,8,9,13] mixed Tryz.func59 rfl (by kernel_rfl) (by kernel_rfl) (by kernel_rfl) (by kernel_rfl) ?_
 repeat (first|(simp -implicitDefEqProofs only [go_sem,Nat.reduceAdd,Nat.reduceMul,Nat.reduceEqDiff,Nat.reduceLT,Nat.reduceLeDiff,reduceCtorEq]))
 refine Qar mixed (fun i:{i:Nat // i≤l.length}=>St.of [(0,wsPV l),(1,.int .i64 (k:Int)),(5,.slc ((nmU k l i.1).map (PV.int .i64))),(6,.int .i64 (i.1:Int))] []) (fun i=>l.length-i.1) ⟨0,Nat.zero_le _⟩ ?_ ?_
 ·refine Le.trans (Zlz 5 rfl) (Qaj (θ:=[]) rfl ?_ trivial)
  simp [Qad,lkp,ren1,ren0,Qal,wsPV]
  rfl
 rintro⟨i,hi⟩
 simp only
 by_cases hA:i<l.length
 ·have hA':=ltT hA
  have n0:=nnT i
  have hg:=Qie l i hA
  have hwk:=Qai (a:=i) (by omega)
  have hw:=Qgj (hvw _ (List.getElem_mem hA))
  have hst:=Qx8 k l i
  have hln:=Qmb k l i hi h8
  have hstep:=fun a b=>Q9i (a:=a) (b:=b) k hA
  generalize hNN:nmU k l (i+1)=NN at*
  generalize nmU k l i=N0 at*
  generalize l[i]=w at*
  have x0:IntKind.i64.wrap (w.hx+1)=w.hx+1:=Qah (by omega) (by omega)
  have x1:IntKind.i64.wrap (w.hy+1)=w.hy+1:=Qah (by omega) (by omega)
  have x2:IntKind.i64.wrap (w.hz+1)=w.hz+1:=Qah (by omega) (by omega)
  have key: ∃a b,NN=insU b (insU a N0)∧ [PV.int .i64 w.lx,.int .i64 w.ly,.int .i64 w.lz,.int .i64 w.f][k]? =some (.int .i64 a)∧ [PV.int .i64 (w.hx+1),.int .i64 (w.hy+1),.int .i64 (w.hz+1),.int .i64 w.t][k]? =some (.int .i64 b):=by
   rcases(show k=0∨k=1∨k=2∨k=3 by omega)with rfl|rfl|rfl|rfl
   ·exact⟨_,_,hstep _ _ rfl,rfl,rfl⟩
   ·exact⟨_,_,hstep _ _ rfl,rfl,rfl⟩
   ·exact⟨_,_,hstep _ _ rfl,rfl,rfl⟩
   ·exact⟨_,_,hstep _ _ rfl,rfl,rfl⟩
  obtain⟨a,b,e,g1,g2⟩:=key
  have f1:=Qwk N0 a hst (by omega)
  have f2:=Qwk (insU a N0) b (Ql8 _ _ hst) (by have:=Qwa a N0;omega)
  have nk:=nnT k
  have k4:((k:Int)<4)=True:=eq_true (by omega)
  have k5:((k:Int)<((4:Nat):Int))=True:=eq_true (by omega)
  rw [←e]at f2
  generalize insU a N0=N1 at*
  repeat (first|(simp -implicitDefEqProofs only [go_sem,Nat.reduceAdd,Nat.reduceMul,Nat.reduceEqDiff,Nat.reduceLT,Nat.reduceLeDiff,reduceCtorEq,hA',n0,hg,hwk,x0,x1,x2,g1,g2,nk,k4,k5,Int.toNat_natCast,List.length_map])|((with_reducible refine Qab (f1) ?_ ?_ ?_);(with_reducible rfl);rfl)|((with_reducible refine Qab (f2) ?_ ?_ ?_);(with_reducible rfl);rfl))
  refine⟨⟨i+1,hA⟩,by simp only;omega,Qaj (θ:=[]) rfl ?_ trivial⟩
  simp only [hNN]
  simp [Qad,lkp,ren1,ren0,Qal,wsPV]
 ·have hA':=ltF hA
  obtain rfl:i=l.length:=by omega
  rw [Qmc]
  repeat (first|(simp -implicitDefEqProofs only [go_sem,Nat.reduceAdd,Nat.reduceMul,Nat.reduceEqDiff,Nat.reduceLT,Nat.reduceLeDiff,reduceCtorEq,hA',List.length_map]))
theorem Zmi (x y z:Int) (hx: -40000≤x∧x≤40000) (hy: -40000≤y∧y≤40000) (hz: -40000≤z∧z≤40000):Qag Tryz.prog 60 [.agg [.int .i64 x,.int .i64 y,.int .i64 z]] (.int .i64 (x*x+y*y+z*z)):=by
 have b0:=Qga hx
 have b1:=Qga hy
 have b2:=Qga hz
 have w0:IntKind.i64.wrap (x*x)=x*x:=Qah (by omega) (by omega)
 have w1:IntKind.i64.wrap (y*y)=y*y:=Qah (by omega) (by omega)
 have w2:IntKind.i64.wrap (z*z)=z*z:=Qah (by omega) (by omega)
 have w3:IntKind.i64.wrap (x*x+y*y)=x*x+y*y:=Qah (by omega) (by omega)
 have w4:IntKind.i64.wrap (x*x+y*y+z*z)=x*x+y*y+z*z:=Qah (by omega) (by omega)
 refine Qac (tb:=[]) 20 [.tmp 2] [0,1,2] mixed Tryz.func60 rfl (by kernel_rfl) (by kernel_rfl) (by kernel_rfl) (by kernel_rfl) ?_
 repeat (first|(simp -implicitDefEqProofs only [go_sem,Nat.reduceAdd,Nat.reduceMul,Nat.reduceEqDiff,Nat.reduceLT,Nat.reduceLeDiff,reduceCtorEq,w0,w1,w2,w3,w4]))
theorem Zhd {α β:Type} (f:α→List β) (L:List α) (i:Nat) (h:i<L.length):(L.take (i+1)).flatMap f=(L.take i).flatMap f++f L[i]:=by rw [Qa1 L i h,List.flatMap_append];simp
set_option maxHeartbeats 8000000 in
theorem Qrp (l:List Wd) (hv:Qau l=true):Qag Tryz.prog 22 [wsPV l] (.int .i64 (Qek l)):=by
 have h8:=(Qba hv).2
 have g0:=Qii 0 (by decide) l hv
 have g1:=Qii 1 (by decide) l hv
 have g2:=Qii 2 (by decide) l hv
 have g3:=Qii 3 (by decide) l hv
 have lX:(numE 0 l).length≤16:=by rw [←Qmc];exact Qmb _ _ _ (Nat.le_refl _) h8
 have lY:(numE 1 l).length≤16:=by rw [←Qmc];exact Qmb _ _ _ (Nat.le_refl _) h8
 have lZ:(numE 2 l).length≤16:=by rw [←Qmc];exact Qmb _ _ _ (Nat.le_refl _) h8
 have lT:(numE 3 l).length≤16:=by rw [←Qmc];exact Qmb _ _ _ (Nat.le_refl _) h8
 unfold Qek Qid
 have c0':((0:Nat):Int)=0:=rfl
 have c1':((1:Nat):Int)=1:=rfl
 have c2':((2:Nat):Int)=2:=rfl
 have c3':((3:Nat):Int)=3:=rfl
 rw [c0']at g0
 rw [c1']at g1
 rw [c2']at g2
 rw [c3']at g3
 generalize numE 0 l=X at*
 generalize numE 1 l=Y at*
 generalize numE 2 l=Z at*
 generalize numE 3 l=T at*
 have hbd:=fun qs=>Qwe hv qs 0 (by decide)
 refine Qac (tb:=[]) 67 [.tmp 2] [0,2,3,4,5,6,7,8,9,10,11,23,29,35,41] mixed Tryz.func22 rfl (by kernel_rfl) (by kernel_rfl) (by kernel_rfl) (by kernel_rfl) ?_
 repeat (first|(simp -implicitDefEqProofs only [go_sem,Nat.reduceAdd,Nat.reduceMul,Nat.reduceEqDiff,Nat.reduceLT,Nat.reduceLeDiff,reduceCtorEq])|((with_reducible refine Qab (g0) ?_ ?_ ?_);(with_reducible rfl);rfl)|((with_reducible refine Qab (g1) ?_ ?_ ?_);(with_reducible rfl);rfl)|((with_reducible refine Qab (g2) ?_ ?_ ?_);(with_reducible rfl);rfl)|((with_reducible refine Qab (g3) ?_ ?_ ?_);(with_reducible rfl);rfl)|(with_reducible exact Qaa _ _ (by kernel_rfl))|(with_reducible refine And.intro (Qaa _ _ (by kernel_rfl)) ?_))
 refine Qar mixed (fun i:{i:Nat // i≤X.length}=>St.of [(0,wsPV l),(3,.int .i64 (Qdc l 0 (c0 (X.take i.1) Y Z T))),(4,.slc (X.map (PV.int .i64))),(5,.slc (Y.map (PV.int .i64))),(6,.slc (Z.map (PV.int .i64))),(7,.slc (T.map (PV.int .i64))),(8,.int .i64 (i.1:Int))] []) (fun i=>X.length-i.1) ⟨0,Nat.zero_le _⟩ ?_ ?_
 ·refine Qaj (θ:=[]) rfl ?_ trivial
  simp [Qad,lkp,ren1,ren0,Qal,wsPV]
  rfl
 rintro⟨i,hi⟩
 simp only
 by_cases hA:i<X.length
 case neg=>
  have hA':=ltF hA
  have e:X.take i=X:=List.take_of_length_le (by omega)
  rw [e]
  generalize Qdc l 0 (c0 X Y Z T)=M at*
  repeat (first|(simp -implicitDefEqProofs only [go_sem,Nat.reduceAdd,Nat.reduceMul,Nat.reduceEqDiff,Nat.reduceLT,Nat.reduceLeDiff,reduceCtorEq,hA',List.length_map])|(with_reducible exact Qaa _ _ (by kernel_rfl))|(with_reducible refine And.intro (Qaa _ _ (by kernel_rfl)) ?_))
 have hA':=ltT hA
 have n0:=nnT i
 have hg:=Qhz X i hA
 have hwk:=Qai (a:=i) (by omega)
 have hP:c0 (X.take (i+1)) Y Z T=c0 (X.take i) Y Z T++c1 X[i] Y Z T:=Zhd _ X i hA
 generalize hPN:c0 (X.take (i+1)) Y Z T=PN at*
 generalize c0 (X.take i) Y Z T=P at*
 generalize X[i]=x at*
 repeat (first|(simp -implicitDefEqProofs only [go_sem,Nat.reduceAdd,Nat.reduceMul,Nat.reduceEqDiff,Nat.reduceLT,Nat.reduceLeDiff,reduceCtorEq,hA',List.length_map])|(with_reducible exact Qaa _ _ (by kernel_rfl))|(with_reducible refine And.intro (Qaa _ _ (by kernel_rfl)) ?_))
 refine Qar mixed (fun j:{j:Nat // j≤Y.length}=>St.of [(0,wsPV l),(3,.int .i64 (Qdc l 0 (P++c1 x (Y.take j.1) Z T))),(4,.slc (X.map (PV.int .i64))),(5,.slc (Y.map (PV.int .i64))),(6,.slc (Z.map (PV.int .i64))),(7,.slc (T.map (PV.int .i64))),(8,.int .i64 (i:Int)),(9,.int .i64 (j.1:Int))] []) (fun j=>Y.length-j.1) ⟨0,Nat.zero_le _⟩ ?_ ?_
 ·simp only [List.take_zero,c1,List.flatMap_nil,List.append_nil]
  refine Qaj (θ:=[]) rfl ?_ trivial
  simp [Qad,lkp,ren1,ren0,Qal,wsPV]
 rintro⟨j,hj⟩
 simp only
 by_cases hB:j<Y.length
 case neg=>
  have hB':=ltF hB
  have e:Y.take j=Y:=List.take_of_length_le (by omega)
  rw [e,←hP]
  repeat (first|(simp -implicitDefEqProofs only [go_sem,Nat.reduceAdd,Nat.reduceMul,Nat.reduceEqDiff,Nat.reduceLT,Nat.reduceLeDiff,reduceCtorEq,hB',hwk,List.length_map])|(with_reducible exact Qaa _ _ (by kernel_rfl))|(with_reducible refine And.intro (Qaa _ _ (by kernel_rfl)) ?_))
  refine⟨⟨i+1,hA⟩,by simp only;omega,Qaj (θ:=[]) rfl ?_ trivial⟩
  simp only [hPN]
  simp [Qad,lkp,ren1,ren0,Qal,wsPV]
 have hB':=ltT hB
 have n1:=nnT j
 have hg1:=Qhz Y j hB
 have hwk1:=Qai (a:=j) (by omega)
 have hP1:P++c1 x (Y.take (j+1)) Z T=(P++c1 x (Y.take j) Z T)++c2 x Y[j] Z T:=by rw [List.append_assoc];exact congrArg _ (Zhd _ Y j hB)
 generalize hPN1:P++c1 x (Y.take (j+1)) Z T=PN1 at*
 generalize P++c1 x (Y.take j) Z T=Q1 at*
 generalize Y[j]=y at*
 repeat (first|(simp -implicitDefEqProofs only [go_sem,Nat.reduceAdd,Nat.reduceMul,Nat.reduceEqDiff,Nat.reduceLT,Nat.reduceLeDiff,reduceCtorEq,hB',List.length_map])|(with_reducible exact Qaa _ _ (by kernel_rfl))|(with_reducible refine And.intro (Qaa _ _ (by kernel_rfl)) ?_))
 refine Qar mixed (fun k:{k:Nat // k≤Z.length}=>St.of [(0,wsPV l),(3,.int .i64 (Qdc l 0 (Q1++c2 x y (Z.take k.1) T))),(4,.slc (X.map (PV.int .i64))),(5,.slc (Y.map (PV.int .i64))),(6,.slc (Z.map (PV.int .i64))),(7,.slc (T.map (PV.int .i64))),(8,.int .i64 (i:Int)),(9,.int .i64 (j:Int)),(10,.int .i64 (k.1:Int))] []) (fun k=>Z.length-k.1) ⟨0,Nat.zero_le _⟩ ?_ ?_
 ·simp only [List.take_zero,c2,List.flatMap_nil,List.append_nil]
  refine Qaj (θ:=[]) rfl ?_ trivial
  simp [Qad,lkp,ren1,ren0,Qal,wsPV]
 rintro⟨k,hk⟩
 simp only
 by_cases hC:k<Z.length
 case neg=>
  have hC':=ltF hC
  have e:Z.take k=Z:=List.take_of_length_le (by omega)
  rw [e,←hP1]
  repeat (first|(simp -implicitDefEqProofs only [go_sem,Nat.reduceAdd,Nat.reduceMul,Nat.reduceEqDiff,Nat.reduceLT,Nat.reduceLeDiff,reduceCtorEq,hC',hwk1,List.length_map])|(with_reducible exact Qaa _ _ (by kernel_rfl))|(with_reducible refine And.intro (Qaa _ _ (by kernel_rfl)) ?_))
  refine⟨⟨j+1,hB⟩,by simp only;omega,Qaj (θ:=[]) rfl ?_ trivial⟩
  simp only [hPN1]
  simp [Qad,lkp,ren1,ren0,Qal,wsPV]
 have hC':=ltT hC
 have n2:=nnT k
 have hg2:=Qhz Z k hC
 have hwk2:=Qai (a:=k) (by omega)
 have hP2:Q1++c2 x y (Z.take (k+1)) T=(Q1++c2 x y (Z.take k) T)++c3 x y Z[k] T:=by rw [List.append_assoc];exact congrArg _ (Zhd _ Z k hC)
 generalize hPN2:Q1++c2 x y (Z.take (k+1)) T=PN2 at*
 generalize Q1++c2 x y (Z.take k) T=Q2 at*
 generalize Z[k]=z at*
 repeat (first|(simp -implicitDefEqProofs only [go_sem,Nat.reduceAdd,Nat.reduceMul,Nat.reduceEqDiff,Nat.reduceLT,Nat.reduceLeDiff,reduceCtorEq,hC',List.length_map])|(with_reducible exact Qaa _ _ (by kernel_rfl))|(with_reducible refine And.intro (Qaa _ _ (by kernel_rfl)) ?_))
 refine Qar mixed (fun q:{q:Nat // q≤T.length}=>St.of [(0,wsPV l),(3,.int .i64 (Qdc l 0 (Q2++c3 x y z (T.take q.1)))),(4,.slc (X.map (PV.int .i64))),(5,.slc (Y.map (PV.int .i64))),(6,.slc (Z.map (PV.int .i64))),(7,.slc (T.map (PV.int .i64))),(8,.int .i64 (i:Int)),(9,.int .i64 (j:Int)),(10,.int .i64 (k:Int)),(11,.int .i64 (q.1:Int))] []) (fun q=>T.length-q.1) ⟨0,Nat.zero_le _⟩ ?_ ?_
 ·simp only [List.take_zero,c3,List.map_nil,List.append_nil]
  refine Qaj (θ:=[]) rfl ?_ trivial
  simp [Qad,lkp,ren1,ren0,Qal,wsPV]
 rintro⟨q,hq⟩
 simp only
 by_cases hD:q<T.length
 case neg=>
  have hD':=ltF hD
  have e:T.take q=T:=List.take_of_length_le (by omega)
  rw [e,←hP2]
  repeat (first|(simp -implicitDefEqProofs only [go_sem,Nat.reduceAdd,Nat.reduceMul,Nat.reduceEqDiff,Nat.reduceLT,Nat.reduceLeDiff,reduceCtorEq,hD',hwk2,List.length_map])|(with_reducible exact Qaa _ _ (by kernel_rfl))|(with_reducible refine And.intro (Qaa _ _ (by kernel_rfl)) ?_))
  refine⟨⟨k+1,hC⟩,by simp only;omega,Qaj (θ:=[]) rfl ?_ trivial⟩
  simp only [hPN2]
  simp [Qad,lkp,ren1,ren0,Qal,wsPV]
 have hD':=ltT hD
 have n3:=nnT q
 have hg3:=Qhz T q hD
 have hwk3:=Qai (a:=q) (by omega)
 have hsn:Qdc l 0 (Q2++c3 x y z (T.take (q+1)))=max (Qdc l 0 (Q2++c3 x y z (T.take q))) (sqL l (x,y,z,T[q])):=by
  have e:Q2++c3 x y z (T.take (q+1))=(Q2++c3 x y z (T.take q))++[(x,y,z,T[q])]:=by rw [List.append_assoc];unfold c3;rw [Qa1 T q hD,List.map_append];rfl
  rw [e,Ql9];rfl
 generalize hM2:Qdc l 0 (Q2++c3 x y z (T.take (q+1)))=M2 at*
 generalize Qdc l 0 (Q2++c3 x y z (T.take q))=M at*
 generalize T[q]=t at*
 have f1:=Qt6 l x y z t hv
 have a0:=Qf9 (g:=Wd.ux) (.inl rfl) hv x y z t
 have a1:=Qf9 (g:=Wd.uy) (.inr (.inl rfl)) hv x y z t
 have a2:=Qf9 (g:=Wd.uz) (.inr (.inr rfl)) hv x y z t
 have f2:=Zmi _ _ _ a0 a1 a2
 have es:sqL l (x,y,z,t)=atW Wd.ux l x y z t*atW Wd.ux l x y z t+atW Wd.uy l x y z t*atW Wd.uy l x y z t+atW Wd.uz l x y z t*atW Wd.uz l x y z t:=rfl
 rw [←es]at f2
 generalize sqL l (x,y,z,t)=SQ at*
 unfold Qh0 at f1
 generalize atW Wd.ux l x y z t=u0 at*
 generalize atW Wd.uy l x y z t=u1 at*
 generalize atW Wd.uz l x y z t=u2 at*
 repeat (first|(simp -implicitDefEqProofs only [go_sem,Nat.reduceAdd,Nat.reduceMul,Nat.reduceEqDiff,Nat.reduceLT,Nat.reduceLeDiff,reduceCtorEq,hD',n0,n1,n2,n3,hg,hg1,hg2,hg3,hwk3,Zpb,Int.toNat_natCast,List.length_map])|((with_reducible refine Qab (f1) ?_ ?_ ?_);(with_reducible rfl);rfl)|((with_reducible refine Qab (f2) ?_ ?_ ?_);(with_reducible rfl);rfl)|(with_reducible exact Qaa _ _ (by kernel_rfl))|(with_reducible refine And.intro (Qaa _ _ (by kernel_rfl)) ?_))
 refine⟨⟨q+1,hD⟩,by simp only;omega,Qaj (θ:=[]) rfl ?_ trivial⟩
 simp only [hM2,hsn]
 simp [Qad,lkp,ren1,ren0,Qal,wsPV]
end Go.Proofs.YtciddhkfbgkejaaGreatDoor

namespace Go.Proofs.YtciddhkfbgkejaaGreatDoor
open Go.Vl Go.RowKit Go.Dg
theorem Q1y (a b:List Int) (ha:a.length≤1000):Qag Tryz.prog 18 [.slc (a.map (PV.int .i64)),.slc (b.map (PV.int .i64))] (.bool (decide (a=b))):=by
 by_cases hl:a.length=b.length
 ·have hl':((a.length:Int) != (b.length:Int))=false:=by rw [hl];exact bne_self_eq_false _
  refine Qac (tb:=[]) 26 [.tmp 4] [0,1,4,5,10,14,25] mixed Tryz.func18 rfl (by kernel_rfl) (by kernel_rfl) (by kernel_rfl) (by kernel_rfl) ?_
  repeat (first|(simp -implicitDefEqProofs only [go_sem,Nat.reduceAdd,Nat.reduceMul,Nat.reduceEqDiff,Nat.reduceLT,Nat.reduceLeDiff,reduceCtorEq,hl',List.length_map])|(with_reducible exact Qaa _ _ (by kernel_rfl))|(with_reducible refine And.intro (Qaa _ _ (by kernel_rfl)) ?_))
  refine Qar mixed (fun i:{i:Nat // i≤a.length∧a.take i=b.take i}=>St.of [(0,.slc (a.map (PV.int .i64))),(1,.slc (b.map (PV.int .i64))),(5,.int .i64 (i.1:Int))] []) (fun i=>a.length-i.1) ⟨0,Nat.zero_le _,rfl⟩ ?_ ?_
  ·refine Qay ?_
   simp [Qad,lkp,ren1,ren0,Qal]
  rintro⟨i,hi,he⟩
  simp only
  by_cases hA:i<a.length
  ·have hA':=ltT hA
   have n0:=nnT i
   have g1:=Qhz a i hA
   have g2:=Qhz b i (by omega)
   have hwk:=Qai (a:=i) (by omega)
   by_cases hx:a[i]=b[i]'(by omega)
   ·have hx':(a[i] != b[i]'(by omega))=false:=by rw [hx];exact bne_self_eq_false _
    have he2:a.take (i+1)=b.take (i+1):=by rw [Qa1 a i hA,Qa1 b i (by omega),he,hx]
    generalize a[i]=x at*
    generalize b[i]'(by omega)=y at*
    repeat (first|(simp -implicitDefEqProofs only [go_sem,Nat.reduceAdd,Nat.reduceMul,Nat.reduceEqDiff,Nat.reduceLT,Nat.reduceLeDiff,reduceCtorEq,hA',n0,g1,g2,hwk,hx',Int.toNat_natCast,List.length_map])|(with_reducible exact Qaa _ _ (by kernel_rfl))|(with_reducible refine And.intro (Qaa _ _ (by kernel_rfl)) ?_))
    refine⟨⟨i+1,hA,he2⟩,by simp only;omega,Qay ?_⟩
    simp [Qad,lkp,ren1,ren0,Qal]
   ·have hx':(a[i] != b[i]'(by omega))=true:=by simpa using hx
    have e:decide (a=b)=false:=decide_eq_false (by rintro rfl;exact hx rfl)
    rw [e]
    generalize a[i]=x at*
    generalize b[i]'(by omega)=y at*
    repeat (first|(simp -implicitDefEqProofs only [go_sem,Nat.reduceAdd,Nat.reduceMul,Nat.reduceEqDiff,Nat.reduceLT,Nat.reduceLeDiff,reduceCtorEq,hA',n0,g1,g2,hx',Int.toNat_natCast,List.length_map])|(with_reducible exact Qaa _ _ (by kernel_rfl))|(with_reducible refine And.intro (Qaa _ _ (by kernel_rfl)) ?_))
  ·have hA':=ltF hA
   rw [List.take_of_length_le (by omega),List.take_of_length_le (by omega)]at he
   rw [decide_eq_true he]
   repeat (first|(simp -implicitDefEqProofs only [go_sem,Nat.reduceAdd,Nat.reduceMul,Nat.reduceEqDiff,Nat.reduceLT,Nat.reduceLeDiff,reduceCtorEq,hA',List.length_map])|(with_reducible exact Qaa _ _ (by kernel_rfl))|(with_reducible refine And.intro (Qaa _ _ (by kernel_rfl)) ?_))
 ·have hl':((a.length:Int) != (b.length:Int))=true:=by simp only [bne_iff_ne,ne_eq];omega
  have e:decide (a=b)=false:=decide_eq_false (by rintro rfl;exact hl rfl)
  rw [e]
  refine Qac (tb:=[]) 26 [.tmp 4] [0,1,4,5,10,14,25] mixed Tryz.func18 rfl (by kernel_rfl) (by kernel_rfl) (by kernel_rfl) (by kernel_rfl) ?_
  repeat (first|(simp -implicitDefEqProofs only [go_sem,Nat.reduceAdd,Nat.reduceMul,Nat.reduceEqDiff,Nat.reduceLT,Nat.reduceLeDiff,reduceCtorEq,hl',List.length_map])|(with_reducible exact Qaa _ _ (by kernel_rfl))|(with_reducible refine And.intro (Qaa _ _ (by kernel_rfl)) ?_))
theorem Q1z (l:List (Int×Int×Int)) (hl:l.length≤1000):Qag Tryz.prog 26 [.slc (l.map fun v=> .agg [.int .i64 v.1,.int .i64 v.2.1,.int .i64 v.2.2]),.slc (l.map fun v=> .agg [.int .i64 v.1,.int .i64 v.2.1,.int .i64 v.2.2])] (.bool true):=by
 have hl':((l.length:Int) != (l.length:Int))=false:=bne_self_eq_false _
 refine Qac (tb:=[]) 26 [.tmp 4] [0,1,4,5,10,14,25] mixed Tryz.func26 rfl (by kernel_rfl) (by kernel_rfl) (by kernel_rfl) (by kernel_rfl) ?_
 repeat (first|(simp -implicitDefEqProofs only [go_sem,Nat.reduceAdd,Nat.reduceMul,Nat.reduceEqDiff,Nat.reduceLT,Nat.reduceLeDiff,reduceCtorEq,hl',List.length_map])|(with_reducible exact Qaa _ _ (by kernel_rfl))|(with_reducible refine And.intro (Qaa _ _ (by kernel_rfl)) ?_))
 refine Qar mixed (fun i:{i:Nat // i≤l.length}=>St.of [(0,.slc (l.map fun v=> .agg [.int .i64 v.1,.int .i64 v.2.1,.int .i64 v.2.2])),(1,.slc (l.map fun v=> .agg [.int .i64 v.1,.int .i64 v.2.1,.int .i64 v.2.2])),(5,.int .i64 (i.1:Int))] []) (fun i=>l.length-i.1) ⟨0,Nat.zero_le _⟩ ?_ ?_
 ·refine Qay ?_
  simp [Qad,lkp,ren1,ren0,Qal]
 rintro⟨i,hi⟩
 simp only
 by_cases hA:i<l.length
 ·have hA':=ltT hA
  have n0:=nnT i
  have g1:(l.map fun v=>PV.agg [.int .i64 v.1,.int .i64 v.2.1,.int .i64 v.2.2])[i]? =some (.agg [.int .i64 l[i].1,.int .i64 l[i].2.1,.int .i64 l[i].2.2]):=by rw [List.getElem?_map,List.getElem?_eq_getElem hA];rfl
  have hwk:=Qai (a:=i) (by omega)
  generalize l[i].1=x at*
  generalize l[i].2.1=y at*
  generalize l[i].2.2=z at*
  repeat (first|(simp -implicitDefEqProofs only [go_sem,Nat.reduceAdd,Nat.reduceMul,Nat.reduceEqDiff,Nat.reduceLT,Nat.reduceLeDiff,reduceCtorEq,hA',n0,g1,hwk,bne_self_eq_false,beq_self_eq_true,Bool.and_self,Bool.not_true,Int.toNat_natCast,List.length_map])|(with_reducible exact Qaa _ _ (by kernel_rfl))|(with_reducible refine And.intro (Qaa _ _ (by kernel_rfl)) ?_))
  refine⟨⟨i+1,hA⟩,by simp only;omega,Qay ?_⟩
  simp [Qad,lkp,ren1,ren0,Qal]
 ·have hA':=ltF hA
  repeat (first|(simp -implicitDefEqProofs only [go_sem,Nat.reduceAdd,Nat.reduceMul,Nat.reduceEqDiff,Nat.reduceLT,Nat.reduceLeDiff,reduceCtorEq,hA',List.length_map])|(with_reducible exact Qaa _ _ (by kernel_rfl))|(with_reducible refine And.intro (Qaa _ _ (by kernel_rfl)) ?_))
theorem Q10 (l:List Wd) (p:List Sg):p.map (alV l)=(p.map fun s=>(atW Wd.ux l (posS s 0) (posS s 1) (posS s 2) s.f,atW Wd.uy l (posS s 0) (posS s 1) (posS s 2) s.f,atW Wd.uz l (posS s 0) (posS s 1) (posS s 2) s.f)).map fun v=>PV.agg [.int .i64 v.1,.int .i64 v.2.1,.int .i64 v.2.2]:=by
 rw [List.map_map];rfl
def gW1:Wd:=⟨0,0,0,100,100,100,0,1000,300,0,0⟩
def gW2:Wd:=⟨100,0,0,200,100,100,500,2000,0,400,0⟩
theorem Qdz (x y z:Int):Qag Tryz.prog 28 [.int .i64 x,.int .i64 y,.int .i64 z] (.agg [.int .i64 x,.int .i64 y,.int .i64 z]):=by
 refine Qac (tb:=[]) 11 [.cell 6 26] [0,1,2,6] mixed Tryz.func28 rfl (by kernel_rfl) (by kernel_rfl) (by kernel_rfl) (by kernel_rfl) ?_
 repeat (first|(simp -implicitDefEqProofs only [go_sem,Nat.reduceAdd,Nat.reduceMul,Nat.reduceEqDiff,Nat.reduceLT,Nat.reduceLeDiff,reduceCtorEq]))
theorem Qrq:Qag Tryz.prog 45 [] (wsPV [gW1,gW2]):=by
 have a1:=Qdz 0 0 0
 have a2:=Qdz 100 100 100
 have a3:=Qdz 300 0 0
 have a4:=Qdz 100 0 0
 have a5:=Qdz 200 100 100
 have a6:=Qdz 0 400 0
 unfold wsPV gW1 gW2
 rw [List.map_cons,List.map_cons,List.map_nil]
 refine Qac (tb:=[]) 10 [.tmp 0] [0] mixed Tryz.func45 rfl (by kernel_rfl) (by kernel_rfl) (by kernel_rfl) (by kernel_rfl) ?_
 repeat (first|(simp -implicitDefEqProofs only [go_sem,Nat.reduceAdd,Nat.reduceMul,Nat.reduceEqDiff,Nat.reduceLT,Nat.reduceLeDiff,reduceIte,reduceCtorEq])|((with_reducible refine Qab (a1) ?_ ?_ ?_);(with_reducible rfl);rfl)|((with_reducible refine Qab (a2) ?_ ?_ ?_);(with_reducible rfl);rfl)|((with_reducible refine Qab (a3) ?_ ?_ ?_);(with_reducible rfl);rfl)|((with_reducible refine Qab (a4) ?_ ?_ ?_);(with_reducible rfl);rfl)|((with_reducible refine Qab (a5) ?_ ?_ ?_);(with_reducible rfl);rfl)|((with_reducible refine Qab (a6) ?_ ?_ ?_);(with_reducible rfl);rfl))
theorem Zhe (x y z t a b c:Int) (h:(Qau [gW1,gW2]&&(ptB x y z&&(decide (0≤t)&&decide (t≤3600000))))=true) (h1:atW Wd.ux [gW1,gW2] x y z t=a) (h2:atW Wd.uy [gW1,gW2] x y z t=b) (h3:atW Wd.uz [gW1,gW2] x y z t=c):
  Qag Tryz.prog 46 [.agg [.int .i64 x,.int .i64 y,.int .i64 z],.int .i64 t,.agg [.int .i64 a,.int .i64 b,.int .i64 c]] (.bool true):=by
 have f1:=Qrq
 have f2:=Q2b [gW1,gW2] x y z t (by decide)
 rw [if_pos h]at f2
 unfold Qh0 at f2
 rw [h1,h2,h3]at f2
 generalize hL:wsPV [gW1,gW2]=L at*
 obtain⟨L',rfl⟩: ∃L',L= .slc L':=⟨_,hL.symm⟩
 clear hL h h1 h2 h3
 refine Qac (tb:=[]) 23 [.tmp 6] [0,1,2,3,5,6,7,8] mixed Tryz.func46 rfl (by kernel_rfl) (by kernel_rfl) (by kernel_rfl) (by kernel_rfl) ?_
 repeat (first|(simp -implicitDefEqProofs only [go_sem,Nat.reduceAdd,Nat.reduceMul,Nat.reduceEqDiff,Nat.reduceLT,Nat.reduceLeDiff,reduceCtorEq,Qgn,beq_self_eq_true,Bool.and_self])|((with_reducible refine Qab (f1) ?_ ?_ ?_);(with_reducible rfl);rfl)|((with_reducible refine Qab (f2) ?_ ?_ ?_);(with_reducible rfl);rfl)|(with_reducible exact Qaa _ _ (by kernel_rfl))|(with_reducible refine And.intro (Qaa _ _ (by kernel_rfl)) ?_))
theorem Qmd (l:List Wd) (n:Int) (hl:l.length≤6) (hv:Qau l=true) (h:Qek l=n):Qag Tryz.prog 47 [wsPV l,.int .i64 n] (.bool true):=by
 have f1:=Qeo l (by unfold maxLen;omega) (fun _=>hl)
 rw [if_pos hv,h]at f1
 refine Qac (tb:=[]) 19 [.tmp 4] [0,1,4,5,6] mixed Tryz.func47 rfl (by kernel_rfl) (by kernel_rfl) (by kernel_rfl) (by kernel_rfl) ?_
 repeat (first|(simp -implicitDefEqProofs only [go_sem,Nat.reduceAdd,Nat.reduceMul,Nat.reduceEqDiff,Nat.reduceLT,Nat.reduceLeDiff,reduceCtorEq,Qgn,beq_self_eq_true])|((with_reducible refine Qab (f1) ?_ ?_ ?_);(with_reducible rfl);rfl))
def kP:List Sg:=[⟨0,500,1,[150],[0],[0]⟩,⟨500,1000,1,[150],[0],[0]⟩]
set_option maxHeartbeats 8000000 in
set_option maxRecDepth 100000 in
theorem Qff:Qag Tryz.prog 12 [] (.bool true):=by
 have f1:=Qrq
 have v1:=Qdz 100 50 0
 have v2:=Qdz 300 400 0
 have v3:=Qdz 0 400 0
 have v4:=Qdz 99 50 0
 have v5:=Qdz 300 0 0
 have c1:=Qob [gW1,gW2] 100 50 0 600 (by decide)
 rw [if_pos (by decide+kernel)]at c1
 have e1:onL (blW 100 50 0 600) [gW1,gW2]=[0,1]:=by decide+kernel
 rw [e1,List.map_cons,List.map_cons,List.map_nil]at c1
 have c2:=Q1y [0,1] [0,1] (by decide)
 rw [decide_eq_true rfl,List.map_cons,List.map_cons,List.map_nil]at c2
 have k1:=Zhe 100 50 0 600 300 400 0 (by decide+kernel) (by decide+kernel) (by decide+kernel) (by decide+kernel)
 have k2:=Zhe 100 50 0 1000 0 400 0 (by decide+kernel) (by decide+kernel) (by decide+kernel) (by decide+kernel)
 have k3:=Zhe 99 50 0 600 300 0 0 (by decide+kernel) (by decide+kernel) (by decide+kernel) (by decide+kernel)
 have s1:=Qmd [gW1,gW2] 250000 (by decide) (by decide+kernel) (by decide+kernel)
 have s2:=Qmd [gW2] 160000 (by decide) (by decide+kernel) (by decide+kernel)
 have s3:=Qmd [] 0 (by decide) (by decide+kernel) (by decide+kernel)
 have a1:=Qt7 [gW1,gW2] kP (fun s hs=>by
  simp only [kP,List.mem_cons,List.not_mem_nil,or_false]at hs
  rcases hs with rfl|rfl
  ·exact⟨by unfold i64;decide,by unfold i64;decide,by unfold i64;decide,by unfold i64;decide,by decide⟩
  ·exact⟨by unfold i64;decide,by unfold i64;decide,by unfold i64;decide,by unfold i64;decide,by decide⟩) (by decide) (by decide)
 rw [if_pos ⟨by decide+kernel,by decide+kernel⟩,Q10]at a1
 have e2:(kP.map fun s=>(atW Wd.ux [gW1,gW2] (posS s 0) (posS s 1) (posS s 2) s.f,atW Wd.uy [gW1,gW2] (posS s 0) (posS s 1) (posS s 2) s.f,atW Wd.uz [gW1,gW2] (posS s 0) (posS s 1) (posS s 2) s.f))=[(0,0,0),(0,400,0)]:=by decide+kernel
 rw [e2]at a1
 have a2:=Q1z [(0,0,0),(0,400,0)] (by decide)
 simp only [List.map_cons,List.map_nil]at a1 a2
 unfold Qcg kP at a1
 simp only [List.map_cons,List.map_nil]at a1
 unfold sgPV Qat at a1
 simp only [List.map_cons,List.map_nil]at a1
 have g0:(wsPV [gW1,gW2])= .slc [wdPV gW1,wdPV gW2]:=rfl
 have g2:(wsPV [gW2])= .slc [wdPV gW2]:=rfl
 have g3:(wsPV [])= .slc []:=rfl
 rw [g0]at f1 c1 s1 a1
 rw [g2]at s2
 rw [g3]at s3
 unfold wdPV gW1 gW2 at*
 refine Qac (tb:=[]) 75 [.tmp 0] [0,1,2,3,4,5,37,50] mixed Tryz.func12 rfl (by kernel_rfl) (by kernel_rfl) (by kernel_rfl) (by kernel_rfl) ?_
 repeat (first|(simp -implicitDefEqProofs only [go_sem,Nat.reduceAdd,Nat.reduceMul,Nat.reduceEqDiff,Nat.reduceLT,Nat.reduceLeDiff,reduceIte,reduceCtorEq,Qub,Bool.not_true])|((with_reducible refine Qab (f1) ?_ ?_ ?_);(with_reducible rfl);rfl)|((with_reducible refine Qab (v1) ?_ ?_ ?_);(with_reducible rfl);rfl)|((with_reducible refine Qab (c1) ?_ ?_ ?_);(with_reducible rfl);rfl)|((with_reducible refine Qab (c2) ?_ ?_ ?_);(with_reducible rfl);rfl)|((with_reducible refine Qab (v2) ?_ ?_ ?_);(with_reducible rfl);rfl)|((with_reducible refine Qab (k1) ?_ ?_ ?_);(with_reducible rfl);rfl))
 repeat (first|(simp -implicitDefEqProofs only [go_sem,Nat.reduceAdd,Nat.reduceMul,Nat.reduceEqDiff,Nat.reduceLT,Nat.reduceLeDiff,reduceCtorEq,Qub,Bool.not_true])|((with_reducible refine Qab (f1) ?_ ?_ ?_);(with_reducible rfl);rfl)|((with_reducible refine Qab (v1) ?_ ?_ ?_);(with_reducible rfl);rfl)|((with_reducible refine Qab (v3) ?_ ?_ ?_);(with_reducible rfl);rfl)|((with_reducible refine Qab (k2) ?_ ?_ ?_);(with_reducible rfl);rfl)|((with_reducible refine Qab (v4) ?_ ?_ ?_);(with_reducible rfl);rfl)|((with_reducible refine Qab (v5) ?_ ?_ ?_);(with_reducible rfl);rfl)|((with_reducible refine Qab (k3) ?_ ?_ ?_);(with_reducible rfl);rfl))
 repeat (first|(simp -implicitDefEqProofs only [go_sem,Nat.reduceAdd,Nat.reduceMul,Nat.reduceEqDiff,Nat.reduceLT,Nat.reduceLeDiff,reduceIte,reduceCtorEq,Int.reduceLE,Int.reduceToNat,Qub,Bool.not_true,nc_2,List.length_cons,List.length_nil])|((with_reducible refine Qab (f1) ?_ ?_ ?_);(with_reducible rfl);rfl)|((with_reducible refine Qab (s1) ?_ ?_ ?_);(with_reducible rfl);rfl)|((with_reducible refine Qab (s2) ?_ ?_ ?_);(with_reducible rfl);rfl)|((with_reducible refine Qab (s3) ?_ ?_ ?_);(with_reducible rfl);rfl))
 repeat (first|(simp -implicitDefEqProofs only [go_sem,Nat.reduceAdd,Nat.reduceMul,Nat.reduceEqDiff,Nat.reduceLT,Nat.reduceLeDiff,reduceIte,reduceCtorEq,Qgn,Bool.not_true])|((with_reducible refine Qab (f1) ?_ ?_ ?_);(with_reducible rfl);rfl)|((with_reducible refine Qab (a1) ?_ ?_ ?_);(with_reducible rfl);rfl)|((with_reducible refine Qab (v3) ?_ ?_ ?_);(with_reducible rfl);rfl)|((with_reducible refine Qab (a2) ?_ ?_ ?_);(with_reducible rfl);rfl))
end Go.Proofs.YtciddhkfbgkejaaGreatDoor

namespace Go.Proofs.YtciddhkfbgkejaaGreatDoor
open Go.Vl Go.RowKit Go.Dg
theorem Qt1 (l:List Wd) (hl:l.length≤maxLen):Qag Tryz.prog 3 [wsPV l] (.bool true):=by
 have hk:=Qff
 have f1:=Qih l hl
 have f2:=Qdt l hl
 generalize Qau l=b at*
 by_cases h12:12<l.length
 ·have h12':((12:Int)<(l.length:Int))=True:=eq_true (by omega)
  refine Qac (tb:=[]) 15 [.tmp 2] [0,2,5] mixed Tryz.func3 rfl (by kernel_rfl) (by kernel_rfl) (by kernel_rfl) (by kernel_rfl) ?_
  repeat (first|(simp -implicitDefEqProofs only [go_sem,Nat.reduceAdd,Nat.reduceMul,Nat.reduceEqDiff,Nat.reduceLT,Nat.reduceLeDiff,reduceCtorEq,h12',List.length_map])|((with_reducible refine Qab (hk) ?_ ?_ ?_);(with_reducible rfl);rfl))
 ·have h12':((12:Int)<(l.length:Int))=False:=eq_false (by omega)
  refine Qac (tb:=[]) 15 [.tmp 2] [0,2,5] mixed Tryz.func3 rfl (by kernel_rfl) (by kernel_rfl) (by kernel_rfl) (by kernel_rfl) ?_
  repeat (first|(simp -implicitDefEqProofs only [go_sem,Nat.reduceAdd,Nat.reduceMul,Nat.reduceEqDiff,Nat.reduceLT,Nat.reduceLeDiff,reduceCtorEq,h12',beq_self_eq_true,List.length_map])|((with_reducible refine Qab (f1) ?_ ?_ ?_);(with_reducible rfl);rfl)|((with_reducible refine Qab (f2) ?_ ?_ ?_);(with_reducible rfl);rfl)|((with_reducible refine Qab (hk) ?_ ?_ ?_);(with_reducible rfl);rfl))
set_option maxHeartbeats 4000000 in
theorem Qme (l:List Wd) (hl:l.length≤maxLen):Qag Tryz.prog 5 [wsPV l] (.bool true):=by
 have hk:=Qff
 have f2:=Qdt l hl
 by_cases h4:4<l.length
 ·have h4':((4:Int)<(l.length:Int))=True:=eq_true (by omega)
  by_cases h8:l.length≤8
  ·have h8':((l.length:Int)≤8)=True:=eq_true (by omega)
   refine Qac (tb:=[]) 47 [.tmp 2] [0,2,3,4,17,26] mixed Tryz.func5 rfl (by kernel_rfl) (by kernel_rfl) (by kernel_rfl) (by kernel_rfl) ?_
   repeat (first|(simp -implicitDefEqProofs only [go_sem,Nat.reduceAdd,Nat.reduceMul,Nat.reduceEqDiff,Nat.reduceLT,Nat.reduceLeDiff,reduceCtorEq,h4',h8',decide_true,decide_false,List.length_map])|((with_reducible refine Qab (hk) ?_ ?_ ?_);(with_reducible rfl);rfl))
  have h8':((l.length:Int)≤8)=False:=eq_false (by omega)
  by_cases h12:12<l.length
  ·have h12':((12:Int)<(l.length:Int))=True:=eq_true (by omega)
   refine Qac (tb:=[]) 47 [.tmp 2] [0,2,3,4,17,26] mixed Tryz.func5 rfl (by kernel_rfl) (by kernel_rfl) (by kernel_rfl) (by kernel_rfl) ?_
   repeat (first|(simp -implicitDefEqProofs only [go_sem,Nat.reduceAdd,Nat.reduceMul,Nat.reduceEqDiff,Nat.reduceLT,Nat.reduceLeDiff,reduceCtorEq,h4',h8',h12',decide_true,decide_false,List.length_map])|((with_reducible refine Qab (hk) ?_ ?_ ?_);(with_reducible rfl);rfl))
  have h12':((12:Int)<(l.length:Int))=False:=eq_false (by omega)
  have hv:Qau l=false:=by
   cases e:Qau l with
   |false=>rfl
   |true=>exact(h8 (Qba e).2).elim
  have f1:=Qeo l hl (fun h=>by rw [hv]at h;cases h)
  rw [hv]at f1 f2
  simp only [Bool.false_eq_true,if_false]at f1
  refine Qac (tb:=[]) 47 [.tmp 2] [0,2,3,4,17,26] mixed Tryz.func5 rfl (by kernel_rfl) (by kernel_rfl) (by kernel_rfl) (by kernel_rfl) ?_
  repeat (first|(simp -implicitDefEqProofs only [go_sem,Nat.reduceAdd,Nat.reduceMul,Nat.reduceEqDiff,Nat.reduceLT,Nat.reduceLeDiff,reduceCtorEq,h4',h8',h12',Qgn,beq_self_eq_true,Bool.not_false,decide_true,decide_false,List.length_map])|((with_reducible refine Qab (f1) ?_ ?_ ?_);(with_reducible rfl);rfl)|((with_reducible refine Qab (f2) ?_ ?_ ?_);(with_reducible rfl);rfl)|((with_reducible refine Qab (hk) ?_ ?_ ?_);(with_reducible rfl);rfl))
 ·have h4':((4:Int)<(l.length:Int))=False:=eq_false (by omega)
  have h12':((12:Int)<(l.length:Int))=False:=eq_false (by omega)
  have f1:=Qeo l hl (fun _=>by omega)
  cases hv:Qau l with
  |false=>
   rw [hv]at f1 f2
   simp only [Bool.false_eq_true,if_false]at f1
   refine Qac (tb:=[]) 47 [.tmp 2] [0,2,3,4,17,26] mixed Tryz.func5 rfl (by kernel_rfl) (by kernel_rfl) (by kernel_rfl) (by kernel_rfl) ?_
   repeat (first|(simp -implicitDefEqProofs only [go_sem,Nat.reduceAdd,Nat.reduceMul,Nat.reduceEqDiff,Nat.reduceLT,Nat.reduceLeDiff,reduceCtorEq,h4',h12',Qgn,beq_self_eq_true,Bool.not_false,decide_true,decide_false,List.length_map])|((with_reducible refine Qab (f1) ?_ ?_ ?_);(with_reducible rfl);rfl)|((with_reducible refine Qab (f2) ?_ ?_ ?_);(with_reducible rfl);rfl)|((with_reducible refine Qab (hk) ?_ ?_ ?_);(with_reducible rfl);rfl))
  |true=>
   have f3:=Qrp l hv
   rw [hv]at f1 f2
   simp only [if_true]at f1
   generalize Qek l=S at*
   refine Qac (tb:=[]) 47 [.tmp 2] [0,2,3,4,17,26] mixed Tryz.func5 rfl (by kernel_rfl) (by kernel_rfl) (by kernel_rfl) (by kernel_rfl) ?_
   repeat (first|(simp -implicitDefEqProofs only [go_sem,Nat.reduceAdd,Nat.reduceMul,Nat.reduceEqDiff,Nat.reduceLT,Nat.reduceLeDiff,reduceCtorEq,h4',h12',Qgn,beq_self_eq_true,Bool.not_true,decide_true,decide_false,List.length_map])|((with_reducible refine Qab (f1) ?_ ?_ ?_);(with_reducible rfl);rfl)|((with_reducible refine Qab (f2) ?_ ?_ ?_);(with_reducible rfl);rfl)|((with_reducible refine Qab (f3) ?_ ?_ ?_);(with_reducible rfl);rfl)|((with_reducible refine Qab (hk) ?_ ?_ ?_);(with_reducible rfl);rfl))
theorem Q9j (l:List Wd) (p:List Sg) (hp:p.length≤1000):Qag Tryz.prog 26 [.slc (p.map (alV l)),.slc (p.map (alV l))] (.bool true):=by
 rw [Q10]
 exact Q1z _ (by simpa using hp)
def rawW (s:Sg):Prop:=i64 s.f∧i64 s.t∧i64 s.o∧ ∀c∈s.ax,(∀x∈c,i64 x)∧c.length≤maxLen
theorem Q11 {s:Sg} (h:rawW s) (hl: ∀c∈s.ax,c.length≤1000):okSg s:=⟨h.1,h.2.1,h.2.2.1,fun c hc=>(h.2.2.2 c hc).1,hl⟩
set_option maxHeartbeats 4000000 in
theorem Qt2 (l:List Wd) (p:List Sg) (hl:l.length≤maxLen) (hr:(∀s∈p,rawW s)∧p.length≤maxLen):Qag Tryz.prog 6 [wsPV l,.slc (p.map sgPV)] (.bool true):=by
 have hk:=Qff
 by_cases h12:12<l.length
 ·have h12':((12:Int)<(l.length:Int))=True:=eq_true (by omega)
  refine Qac (tb:=[]) 52 [.tmp 4] [0,1,4,5,6,14,29] mixed Tryz.func6 rfl (by kernel_rfl) (by kernel_rfl) (by kernel_rfl) (by kernel_rfl) ?_
  repeat (first|(simp -implicitDefEqProofs only [go_sem,Nat.reduceAdd,Nat.reduceMul,Nat.reduceEqDiff,Nat.reduceLT,Nat.reduceLeDiff,reduceCtorEq,h12',decide_true,List.length_map])|((with_reducible refine Qab (hk) ?_ ?_ ?_);(with_reducible rfl);rfl))
 have h12':((12:Int)<(l.length:Int))=False:=eq_false (by omega)
 have hf:=Q2s p 6 (by decide) hr.2
 unfold Qcg at hf
 cases hF:fewB p 6 with
 |false=>
  rw [hF]at hf
  refine Qac (tb:=[]) 52 [.tmp 4] [0,1,4,5,6,14,29] mixed Tryz.func6 rfl (by kernel_rfl) (by kernel_rfl) (by kernel_rfl) (by kernel_rfl) ?_
  repeat (first|(simp -implicitDefEqProofs only [go_sem,Nat.reduceAdd,Nat.reduceMul,Nat.reduceEqDiff,Nat.reduceLT,Nat.reduceLeDiff,reduceCtorEq,h12',decide_false,Bool.not_false,List.length_map])|((with_reducible refine Qab (hf) ?_ ?_ ?_);(with_reducible rfl);rfl)|((with_reducible refine Qab (hk) ?_ ?_ ?_);(with_reducible rfl);rfl))
 |true=>
 rw [hF]at hf
 obtain⟨l6,l8⟩:=Qn2 hF
 have hp: ∀s∈p,okSg s:=fun s hs=>Q11 (hr.1 s hs) (fun c hc=>by have:=l8 s hs c hc;omega)
 have f1:=Qt7 l p hp hl (by omega)
 have v1:=Qdt l hl
 have v2:=Qr5 p hp (by omega)
 unfold Qcg at f1 v2
 cases hv:Qau l with
 |false=>
  rw [hv]at f1 v1
  simp only [Bool.false_eq_true,false_and,if_false]at f1
  refine Qac (tb:=[]) 52 [.tmp 4] [0,1,4,5,6,14,29] mixed Tryz.func6 rfl (by kernel_rfl) (by kernel_rfl) (by kernel_rfl) (by kernel_rfl) ?_
  repeat (first|(simp -implicitDefEqProofs only [go_sem,Nat.reduceAdd,Nat.reduceMul,Nat.reduceEqDiff,Nat.reduceLT,Nat.reduceLeDiff,reduceCtorEq,h12',decide_false,Bool.not_true,Bool.not_false,Qgn,beq_self_eq_true,List.length_map,List.length_nil])|((with_reducible refine Qab (hf) ?_ ?_ ?_);(with_reducible rfl);rfl)|((with_reducible refine Qab (f1) ?_ ?_ ?_);(with_reducible rfl);rfl)|((with_reducible refine Qab (v1) ?_ ?_ ?_);(with_reducible rfl);rfl)|((with_reducible refine Qab (v2) ?_ ?_ ?_);(with_reducible rfl);rfl)|((with_reducible refine Qab (hk) ?_ ?_ ?_);(with_reducible rfl);rfl))
 |true=>
 cases hV:Qbh p with
 |false=>
  rw [hv,hV]at f1
  rw [hv]at v1
  rw [hV]at v2
  simp only [Bool.false_eq_true,and_false,if_false]at f1
  refine Qac (tb:=[]) 52 [.tmp 4] [0,1,4,5,6,14,29] mixed Tryz.func6 rfl (by kernel_rfl) (by kernel_rfl) (by kernel_rfl) (by kernel_rfl) ?_
  repeat (first|(simp -implicitDefEqProofs only [go_sem,Nat.reduceAdd,Nat.reduceMul,Nat.reduceEqDiff,Nat.reduceLT,Nat.reduceLeDiff,reduceCtorEq,h12',decide_false,Bool.not_true,Bool.not_false,Qgn,beq_self_eq_true,List.length_map,List.length_nil])|((with_reducible refine Qab (hf) ?_ ?_ ?_);(with_reducible rfl);rfl)|((with_reducible refine Qab (f1) ?_ ?_ ?_);(with_reducible rfl);rfl)|((with_reducible refine Qab (v1) ?_ ?_ ?_);(with_reducible rfl);rfl)|((with_reducible refine Qab (v2) ?_ ?_ ?_);(with_reducible rfl);rfl)|((with_reducible refine Qab (hk) ?_ ?_ ?_);(with_reducible rfl);rfl))
 |true=>
  have f2:=Q9q l p hp (by omega) hv hV
  have f3:=Q9j l p (by omega)
  rw [hv,hV]at f1
  rw [hv]at v1
  rw [hV]at v2
  simp only [and_self,if_true]at f1
  unfold Qcg at f2
  generalize p.map (alV l)=AL at*
  refine Qac (tb:=[]) 52 [.tmp 4] [0,1,4,5,6,14,29] mixed Tryz.func6 rfl (by kernel_rfl) (by kernel_rfl) (by kernel_rfl) (by kernel_rfl) ?_
  repeat (first|(simp -implicitDefEqProofs only [go_sem,Nat.reduceAdd,Nat.reduceMul,Nat.reduceEqDiff,Nat.reduceLT,Nat.reduceLeDiff,reduceCtorEq,h12',decide_false,Bool.not_true,Bool.not_false,Qgn,beq_self_eq_true,List.length_map])|((with_reducible refine Qab (hf) ?_ ?_ ?_);(with_reducible rfl);rfl)|((with_reducible refine Qab (f1) ?_ ?_ ?_);(with_reducible rfl);rfl)|((with_reducible refine Qab (f2) ?_ ?_ ?_);(with_reducible rfl);rfl)|((with_reducible refine Qab (f3) ?_ ?_ ?_);(with_reducible rfl);rfl)|((with_reducible refine Qab (v1) ?_ ?_ ?_);(with_reducible rfl);rfl)|((with_reducible refine Qab (v2) ?_ ?_ ?_);(with_reducible rfl);rfl)|((with_reducible refine Qab (hk) ?_ ?_ ?_);(with_reducible rfl);rfl))
theorem Q12:((2:Int)==2)=true:=rfl
theorem Q13 (l:List Wd):((l.map wdPV).all fun e=>e.cells.length==11&&e.cells.all PV.okCell)=true:=by
 rw [List.all_map,List.all_eq_true];intro _ _;rfl
theorem Q14 (l:List Wd):((l.map wdPV).flatMap PV.cells).all PV.okCell=true:=by
 rw [List.all_eq_true];intro c hc
 simp only [List.mem_flatMap,List.mem_map]at hc
 obtain⟨_,⟨s,_,rfl⟩,h⟩:=hc
 simp only [wdPV,PV.cells,List.mem_cons,List.not_mem_nil,or_false]at h
 rcases h with rfl|rfl|rfl|rfl|rfl|rfl|rfl|rfl|rfl|rfl|rfl<;>rfl
set_option maxHeartbeats 16000000 in
set_option maxRecDepth 100000 in
theorem Q9k (l:List Wd) (x y z t:Int) (hl:l.length≤maxLen):Qag Tryz.prog 4 [wsPV l,.agg [.int .i64 x,.int .i64 y,.int .i64 z],.int .i64 t] (.bool true):=by
 have hk:=Qff
 by_cases h12:12<l.length
 ·have h12':((12:Int)<(l.length:Int))=True:=eq_true (by omega)
  refine Qac (tb:=[]) 108 [.tmp 6] [0,1,2,4,6,7,8,9,10,11,12,15,36,47,63] mixed Tryz.func4 rfl (by kernel_rfl) (by kernel_rfl) (by kernel_rfl) (by kernel_rfl) ?_
  repeat (first|(simp -implicitDefEqProofs only [go_sem,Nat.reduceAdd,Nat.reduceMul,Nat.reduceEqDiff,Nat.reduceLT,Nat.reduceLeDiff,reduceCtorEq,h12',List.length_map])|((with_reducible refine Qab (hk) ?_ ?_ ?_);(with_reducible rfl);rfl)|(with_reducible exact Qaa _ _ (by kernel_rfl))|(with_reducible refine And.intro (Qaa _ _ (by kernel_rfl)) ?_))
 have h12':((12:Int)<(l.length:Int))=False:=eq_false (by omega)
 have f1:=Qob l x y z t hl
 have f2:=Q2b l x y z t hl
 have v1:=Qdt l hl
 have v2:=Qig x y z
 have f3:=Qrt l x y z t (by omega)
 have hall:=fun(i:Nat) (h:i<l.length)=>Qie l i h
 have k1:(l.length*88≤140737488355328)=True:=eq_true (by omega)
 have k2:(l.length≤maxLen)=True:=eq_true hl
 have k3:=Q13 l
 have k4:=Q14 l
 have k5:(l.map wdPV).take l.length=l.map wdPV:=List.take_of_length_le (by simp)
 obtain⟨AL,E,w0,w1,w2,hA1,hA2,hA3⟩: ∃(AL:List Int) (E w0 w1 w2:Int),Qag Tryz.prog 15 [wsPV l,.agg [.int .i64 x,.int .i64 y,.int .i64 z],.int .i64 t] (.tup [.slc (AL.map (PV.int .i64)),.int .i64 E])∧Qag Tryz.prog 16 [wsPV l,.agg [.int .i64 x,.int .i64 y,.int .i64 z],.int .i64 t] (.tup [.agg [.int .i64 w0,.int .i64 w1,.int .i64 w2],.int .i64 E])∧
   (if(Qau l&&(ptB x y z&&(decide (0≤t)&&decide (t≤3600000))))=true then AL=onL (blW x y z t) l∧E=0∧w0=atW Wd.ux l x y z t∧w1=atW Wd.uy l x y z t∧w2=atW Wd.uz l x y z t else AL=[]∧E=2∧w0=0∧w1=0∧w2=0):=by
  split at f1
  ·rename_i h
   rw [if_pos h]at f2
   exact⟨_,_,_,_,_,f1,f2,by rw [if_pos h];exact⟨rfl,rfl,rfl,rfl,rfl⟩⟩
  ·rename_i h
   rw [if_neg h]at f2
   exact⟨[],2,0,0,0,f1,f2,by rw [if_neg h];exact⟨rfl,rfl,rfl,rfl,rfl⟩⟩
 clear f1 f2
 refine Zgm 108 [.tmp 6] Tryz.func4 rfl (by kernel_rfl) (by kernel_rfl) (by kernel_rfl) (by kernel_rfl) ?_
 refine Qvr mixed [] [0,1,2,4,6,7,8,9,10,11,12,15,36,47,63] 6 rfl (St.of [(0,wsPV l),(2,.int .i64 t),(4,.bp 0 3 0 0),(8,.slc (AL.map (PV.int .i64))),(9,.int .i64 E),(10,.bp 507 3 0 0),(11,.int .i64 E)] [(0,{els:=[.agg [.int .i64 x,.int .i64 y,.int .i64 z]],esz:=3,ety:=26,fro:=0,live:=true,arr:=false}),(507,{els:=[.agg [.int .i64 w0,.int .i64 w1,.int .i64 w2]],esz:=3,ety:=26,fro:=0,live:=true,arr:=false})]) ?_ ?_
 ·simp only [codes,Qh5,List.take_succ_cons,List.take_zero,List.drop_succ_cons,List.drop_zero,List.foldr_cons,List.foldr_nil]
  clear hk v1 v2 f3 hA3
  by_cases hn:l=[]
  ·subst hn
   have z0:((0:Int)<((0:Nat):Int))=False:=eq_false (by decide)
   have z1:((12:Int)<((0:Nat):Int))=False:=eq_false (by decide)
   unfold wsPV at hA1 hA2 ⊢
   rw [List.map_nil]at hA1 hA2 ⊢
   repeat (first|(simp -implicitDefEqProofs only [go_sem,Nat.reduceAdd,Nat.reduceMul,Nat.reduceEqDiff,Nat.reduceLT,Nat.reduceLeDiff,reduceIte,reduceCtorEq,Int.reduceLT,z1])|((with_reducible refine Qab (hA1) ?_ ?_ ?_);(with_reducible rfl);rfl)|((with_reducible refine Qab (hA2) ?_ ?_ ?_);(with_reducible rfl);rfl)|(with_reducible exact Qaa _ _ (by kernel_rfl))|(with_reducible refine And.intro (Qaa _ _ (by kernel_rfl)) ?_))
   refine Qe9 mixed [0] ?_
   repeat (first|(simp -implicitDefEqProofs only [go_sem,Nat.reduceAdd,Nat.reduceMul,Nat.reduceEqDiff,Nat.reduceLT,Nat.reduceLeDiff,reduceCtorEq,Int.reduceLT,z0])|(with_reducible exact Qaa _ _ (by kernel_rfl))|(with_reducible refine And.intro (Qaa _ _ (by kernel_rfl)) ?_))
   refine Qaj (θ:=[(0,0),(507,507)]) rfl ?_ ?_
   ·simp [Qad,lkp,ren1,ren0,Qal]
   ·exact⟨⟨rfl,rfl,rfl,rfl,rfl,.inr ⟨rfl,_,_,rfl,rfl,rfl,rfl⟩⟩,⟨rfl,rfl,rfl,rfl,rfl,.inr ⟨rfl,_,_,rfl,rfl,rfl,rfl⟩⟩,trivial⟩
  ·have h0:(l.map wdPV).isEmpty=false:=by cases l with|nil=>exact absurd rfl hn|cons=>rfl
   repeat (first|(simp -implicitDefEqProofs only [go_sem,Nat.reduceAdd,Nat.reduceMul,Nat.reduceEqDiff,Nat.reduceLT,Nat.reduceLeDiff,reduceIte,reduceCtorEq,h12',h0,k1,k2,k3,k4,k5,List.length_map])|((with_reducible refine Qab (hA1) ?_ ?_ ?_);(with_reducible rfl);rfl)|((with_reducible refine Qab (hA2) ?_ ?_ ?_);(with_reducible rfl);rfl)|(with_reducible exact Qaa _ _ (by kernel_rfl))|(with_reducible refine And.intro (Qaa _ _ (by kernel_rfl)) ?_))
   refine Qar mixed (fun i:{i:Nat // i≤l.length}=>St.of [(0,wsPV l),(2,.int .i64 t),(4,.bp 0 3 0 0),(7,wsPV l),(8,.slc (AL.map (PV.int .i64))),(9,.int .i64 E),(10,.bp 507 3 0 0),(11,.int .i64 E),(12,.int .i64 (i.1:Int))] [(0,{els:=[.agg [.int .i64 x,.int .i64 y,.int .i64 z]],esz:=3,ety:=26,fro:=0,live:=true,arr:=false}),(507,{els:=[.agg [.int .i64 w0,.int .i64 w1,.int .i64 w2]],esz:=3,ety:=26,fro:=0,live:=true,arr:=false})]) (fun i=>l.length-i.1) ⟨0,Nat.zero_le _⟩ ?_ ?_
   ·refine Le.trans (Qfq 7 rfl rfl rfl rfl (by simp)) (Qaj (θ:=[(0,0),(507,507)]) rfl ?_ ?_)
    ·simp [Qad,lkp,ren1,ren0,Qal,wsPV,List.drop_zero,k5]
    ·exact⟨⟨rfl,rfl,rfl,rfl,rfl,.inr ⟨rfl,_,_,rfl,rfl,rfl,rfl⟩⟩,⟨rfl,rfl,rfl,rfl,rfl,.inr ⟨rfl,_,_,rfl,rfl,rfl,rfl⟩⟩,trivial⟩
   rintro⟨i,hi⟩
   simp only
   by_cases hA:i<l.length
   ·have hA':=ltT hA
    have n0:=nnT i
    have hg:=hall i hA
    have hwk:=Qai (a:=i) (by omega)
    generalize l[i]=w at*
    repeat (first|(simp -implicitDefEqProofs only [go_sem,Nat.reduceAdd,Nat.reduceMul,Nat.reduceEqDiff,Nat.reduceLT,Nat.reduceLeDiff,reduceCtorEq,hA',n0,hg,hwk,bne_self_eq_false,beq_self_eq_true,Bool.and_self,Bool.not_true,Int.toNat_natCast,List.length_map])|(with_reducible exact Qaa _ _ (by kernel_rfl))|(with_reducible refine And.intro (Qaa _ _ (by kernel_rfl)) ?_))
    refine⟨⟨i+1,hA⟩,by simp only;omega,Qaj (θ:=[(0,0),(507,507)]) rfl ?_ ?_⟩
    ·simp [Qad,lkp,ren1,ren0,Qal,wsPV]
    ·exact⟨⟨rfl,rfl,rfl,rfl,rfl,.inr ⟨rfl,_,_,rfl,rfl,rfl,rfl⟩⟩,⟨rfl,rfl,rfl,rfl,rfl,.inr ⟨rfl,_,_,rfl,rfl,rfl,rfl⟩⟩,trivial⟩
   ·have hA':=ltF hA
    repeat (first|(simp -implicitDefEqProofs only [go_sem,Nat.reduceAdd,Nat.reduceMul,Nat.reduceEqDiff,Nat.reduceLT,Nat.reduceLeDiff,reduceCtorEq,hA',List.length_map])|(with_reducible exact Qaa _ _ (by kernel_rfl))|(with_reducible refine And.intro (Qaa _ _ (by kernel_rfl)) ?_))
    refine Qaj (θ:=[(0,0),(507,507)]) rfl ?_ ?_
    ·simp [Qad,lkp,ren1,ren0,Qal,wsPV]
    ·exact⟨⟨rfl,rfl,rfl,rfl,rfl,.inr ⟨rfl,_,_,rfl,rfl,rfl,rfl⟩⟩,⟨rfl,rfl,rfl,rfl,rfl,.inr ⟨rfl,_,_,rfl,rfl,rfl,rfl⟩⟩,trivial⟩
 ·refine v_go (tb:=[]) (ks:=[0,1,2,4,6,7,8,9,10,11,12,15,36,47,63]) mixed ?_
  simp only [codes,Qh5,List.take_succ_cons,List.take_zero,List.drop_succ_cons,List.drop_zero,List.foldr_cons,List.foldr_nil]
  clear hA1 hA2 k1 k2 k3 k4 k5 hall
  cases hv:Qau l with
  |false=>
   rw [hv]at v1 hA3
   simp only [Bool.false_and,Bool.false_eq_true,if_false]at hA3
   obtain⟨rfl,rfl,rfl,rfl,rfl⟩:=hA3
   repeat (first|(simp -implicitDefEqProofs only [go_sem,Nat.reduceAdd,Nat.reduceMul,Nat.reduceEqDiff,Nat.reduceLT,Nat.reduceLeDiff,reduceCtorEq,Bool.not_false,Qgn,Q12,beq_self_eq_true,Bool.and_self,List.length_map,List.map_nil,List.length_nil])|((with_reducible refine Qab (v1) ?_ ?_ ?_);(with_reducible rfl);rfl)|((with_reducible refine Qab (hk) ?_ ?_ ?_);(with_reducible rfl);rfl)|(with_reducible exact Qaa _ _ (by kernel_rfl))|(with_reducible refine And.intro (Qaa _ _ (by kernel_rfl)) ?_))
  |true=>
  cases hpt:ptB x y z with
  |false=>
   rw [hv,hpt]at hA3
   rw [hv]at v1
   rw [hpt]at v2
   simp only [Bool.false_and,Bool.and_false,Bool.false_eq_true,if_false]at hA3
   obtain⟨rfl,rfl,rfl,rfl,rfl⟩:=hA3
   repeat (first|(simp -implicitDefEqProofs only [go_sem,Nat.reduceAdd,Nat.reduceMul,Nat.reduceEqDiff,Nat.reduceLT,Nat.reduceLeDiff,reduceCtorEq,Bool.not_false,Bool.not_true,Qgn,Q12,beq_self_eq_true,Bool.and_self,List.length_map,List.map_nil,List.length_nil])|((with_reducible refine Qab (v1) ?_ ?_ ?_);(with_reducible rfl);rfl)|((with_reducible refine Qab (v2) ?_ ?_ ?_);(with_reducible rfl);rfl)|((with_reducible refine Qab (hk) ?_ ?_ ?_);(with_reducible rfl);rfl)|(with_reducible exact Qaa _ _ (by kernel_rfl))|(with_reducible refine And.intro (Qaa _ _ (by kernel_rfl)) ?_))
  |true=>
  rw [hv,hpt]at hA3
  rw [hv]at v1
  rw [hpt]at v2
  by_cases ht0:t<0
  ·have ht0':=eq_true ht0
   rw [if_neg (by simp;omega)]at hA3
   obtain⟨rfl,rfl,rfl,rfl,rfl⟩:=hA3
   repeat (first|(simp -implicitDefEqProofs only [go_sem,Nat.reduceAdd,Nat.reduceMul,Nat.reduceEqDiff,Nat.reduceLT,Nat.reduceLeDiff,reduceCtorEq,ht0',Bool.not_false,Bool.not_true,Qgn,Q12,beq_self_eq_true,Bool.and_self,decide_true,List.length_map,List.map_nil,List.length_nil])|((with_reducible refine Qab (v1) ?_ ?_ ?_);(with_reducible rfl);rfl)|((with_reducible refine Qab (v2) ?_ ?_ ?_);(with_reducible rfl);rfl)|((with_reducible refine Qab (hk) ?_ ?_ ?_);(with_reducible rfl);rfl)|(with_reducible exact Qaa _ _ (by kernel_rfl))|(with_reducible refine And.intro (Qaa _ _ (by kernel_rfl)) ?_))
  have ht0':=eq_false ht0
  by_cases htM:3600000<t
  ·have htM':=eq_true htM
   rw [if_neg (by simp;omega)]at hA3
   obtain⟨rfl,rfl,rfl,rfl,rfl⟩:=hA3
   repeat (first|(simp -implicitDefEqProofs only [go_sem,Nat.reduceAdd,Nat.reduceMul,Nat.reduceEqDiff,Nat.reduceLT,Nat.reduceLeDiff,reduceCtorEq,ht0',htM',Bool.not_false,Bool.not_true,Qgn,Q12,beq_self_eq_true,Bool.and_self,decide_true,decide_false,List.length_map,List.map_nil,List.length_nil])|((with_reducible refine Qab (v1) ?_ ?_ ?_);(with_reducible rfl);rfl)|((with_reducible refine Qab (v2) ?_ ?_ ?_);(with_reducible rfl);rfl)|((with_reducible refine Qab (hk) ?_ ?_ ?_);(with_reducible rfl);rfl)|(with_reducible exact Qaa _ _ (by kernel_rfl))|(with_reducible refine And.intro (Qaa _ _ (by kernel_rfl)) ?_))
  have htM':=eq_false htM
  rw [if_pos (by simp;omega)]at hA3
  obtain⟨rfl,rfl,rfl,rfl,rfl⟩:=hA3
  have f4:=Q1y (onL (blW x y z t) l) (onL (blW x y z t) l) (by have:=Qt4 (blW x y z t) l l.length;rw [List.take_length]at this;omega)
  rw [decide_eq_true rfl]at f4
  have f5:=Qt6 l x y z t hv
  unfold Qh0 at f5
  generalize onL (blW x y z t) l=O at*
  generalize atW Wd.ux l x y z t=u0 at*
  generalize atW Wd.uy l x y z t=u1 at*
  generalize atW Wd.uz l x y z t=u2 at*
  repeat (first|(simp -implicitDefEqProofs only [go_sem,Nat.reduceAdd,Nat.reduceMul,Nat.reduceEqDiff,Nat.reduceLT,Nat.reduceLeDiff,reduceCtorEq,ht0',htM',Bool.not_false,Bool.not_true,Qgn,Q12,beq_self_eq_true,Bool.and_self,decide_true,decide_false,List.length_map])|((with_reducible refine Qab (v1) ?_ ?_ ?_);(with_reducible rfl);rfl)|((with_reducible refine Qab (v2) ?_ ?_ ?_);(with_reducible rfl);rfl)|((with_reducible refine Qab (f3) ?_ ?_ ?_);(with_reducible rfl);rfl)|((with_reducible refine Qab (f4) ?_ ?_ ?_);(with_reducible rfl);rfl)|((with_reducible refine Qab (f5) ?_ ?_ ?_);(with_reducible rfl);rfl)|((with_reducible refine Qab (hk) ?_ ?_ ?_);(with_reducible rfl);rfl)|(with_reducible exact Qaa _ _ (by kernel_rfl))|(with_reducible refine And.intro (Qaa _ _ (by kernel_rfl)) ?_))
end Go.Proofs.YtciddhkfbgkejaaGreatDoor

namespace Go.Vl
open Go.RowKit
section
variable {H:Type} {enc:TypeId×Value→H}
theorem Qct {a:Assume} {C:Checked} {os:Os} {f:FuncId} {fn:Func} {s:ChangeSpec} {conds:List PathCond} {apart fresh handsOn again:Bool} {tb:TypeId} {L:List (String×DataW Unit)} (tts:List TT)
  (own:ownKnob C.prog.godebug=none) (started:os.Started) (noInit:C.prog.inits.idxOf? f=none) (hfn:C.prog.funcs[f]? =some fn)
  (witness: ∃(w:World) (tape:Tape) (i:Input),w.os=os∧(w.forCall tape i).Shaped C.prog∧i.vars=[]∧Input.okWide C.prog (w.forCall tape i) .any w.heap.size f i∧
   ((s.pre enc C.prog fn conds apart (w.forCall tape i).memory i.args∧laidMetH C.prog L (w.forCall tape i).memory)∧sizedMet enc C.prog fn (OpenSpec.ofChange s) apart (w.forCall tape i).memory i.args)∧a.holds C.prog (lone (Frame.enter C.prog f i.args .normal) [] (w.forCall tape i)))
  (hl:laidOutB C.prog=true) (hvars:s.vars=[]) (hres:fn.resultTypes= #[tb]) (hbool:C.prog.underlying tb=some .bool) (hts:(fn.params.toList.all fun t=>C.prog.readableRec t&&decide (t<C.prog.types.size))=true)
  (hfit:Qj6 C.prog tts fn.params.toList=true) (hs: ∀ds:List (DataW H),ds.length=tts.length→s.fn H ds={results:=[.lit (.bool true)],args:=ds})
  (hcl:callable C.prog f=true) (hlay: ∀W:World,laidMetH C.prog L W→Laid C.prog W.heap.size W) (law: ∀pvs,Qvp tts pvs→Qag C.prog f pvs (.bool true)):
  ReturnsInHanded a C os f .any (fun w args=>(s.pre enc C.prog fn conds apart w args∧laidMetH C.prog L w)∧sizedMet enc C.prog fn (OpenSpec.ofChange s) apart w args) (s.post enc C.prog fn apart fresh handsOn again):=by
 refine returnsInHanded_of_change_and (X:=fun w _=>laidMetH C.prog L w) (fun _ _ _ hh h=>h.of_heap hh) own started noInit hfn witness ?_
 intro W base args ds gs before hval hW q1 q2 q3 q4
 have hW':=hW
 obtain⟨p,q,hA,hV,rfl,hz,hn⟩:=hW
 rw [hvars]at hV
 obtain⟨rfl,rfl⟩:=ChangeShapes.trodVars_none hV
 obtain⟨pvs,h1,h2,h3⟩:=Qxs tts fn.params.toList args.toList ds p hfit (fun j t v e1 e2=>hval j t v (by simpa using e1) (by simpa using e2)) hA
 have hts': ∀t∈fn.params.toList,C.prog.readableRec t=true∧t<C.prog.types.size:=by
  intro t ht
  have:=List.all_eq_true.1 hts t ht
  simpa using this
 have hcall:=((law pvs h1).resolve_right (fun x=>by rw [hcl]at x;cases x.1)).2 W (exIm W) args.toList W.heap.size (Nat.le_refl _) (hlay W (by first|exact q1|exact q2|exact q3|exact q4)) h2 (fun g j x=>x)
 refine(by simpa using hcall:Calls C.prog f args W _).mono ?_
 rintro e W' ⟨v,rfl,hb,hr⟩
 have hv:v= .bool true:=by cases hr;rfl
 subst hv
 exact⟨_,rfl,Qvq hl hvars hres hbool hts' hW' (by rw [List.append_nil];exact hs ds h3) hb⟩
end
end Go.Vl

namespace Go.Proofs.YtciddhkfbgkejaaGreatDoor
open Go.Vl Go.RowKit Go.Dg
theorem own:ownKnob Tryz.prog.godebug=none:=by kernel_rfl
theorem Qmk:laidOutB Tryz.prog=true:=by kernel_rfl
def Qjt:List (String×DataW Unit):=[("math/bits.deBruijn32tab",Rows.laid_math_bits_deBruijn32tab),("math/bits.deBruijn64tab",Rows.laid_math_bits_deBruijn64tab)]
theorem Qim (os:Os) (args:Array Value):laidMetH Tryz.prog Qjt ((World.doorLaid Tryz.prog 62 os).forCall (fun _ _=>0) ⟨#[],args,[]⟩).memory:=
 laidMetH_of_parts3 (fuel:=8) (laidMet_of_run' 8 (by kernel_rfl) (by kernel_rfl)) (by kernel_rfl) (by kernel_rfl)
def Q2y:List Int:=Go.Lib.deBruijn64tab.map fun(z:Nat)=>(z:Int)
theorem hlay (W:World) (h:laidMetH Tryz.prog Qjt W):Laid Tryz.prog W.heap.size W:=by
 rintro nm tab (⟨rfl,rfl⟩|⟨rfl,rfl⟩) g hg
 ·have e:Tryz.prog.globalNamed Q6y=none:=by kernel_rfl
  rw [e]at hg;cases hg
 obtain rfl:g=1:=Option.some.inj (hg.symm.trans (by kernel_rfl))
 have hf:=h.filter (fun x=>x.1==Qmp)
 have e:Qjt.filter (fun x=>x.1==Qmp)=[(Qmp,Lib.tabData .u8 Q2y)]:=by kernel_rfl
 rw [e,MakeChecks.laidMetH_plain _ _ _ (by kernel_rfl)]at hf
 have ht:Lib.TabIs Tryz.prog W Qmp .u8 Q2y:=Lib.tabIs_of_head (g:=1) (t:=238) (e:=5) (n:=64) (by kernel_rfl) (by kernel_rfl) (by kernel_rfl) (by kernel_rfl) (by kernel_rfl) (by kernel_rfl) hf
 have e2:(Q2y.map fun z=>Value.int .u8 z).toArray=Q6z:=by kernel_rfl
 unfold Lib.TabIs at ht
 rw [e2]at ht
 refine⟨?_,ht⟩
 simp only [World.var?,hg,Option.bind_some]at ht
 cases hh:W.heap[(1:Nat)]? with
 |none=>rw [hh]at ht;cases ht
 |some o=>exact(Array.getElem?_eq_some_iff.1 hh).1
theorem Q95 {k:IntKind} {c:List PV} (h:Qb4 (.int k) c): ∃n:Int,TT.mk (.int k) c= .int k n∧(Lit.int k n).wf=true:=by
 simp only [Qb4]at h
 obtain⟨x,rfl,hx⟩:=h
 exact⟨x,rfl,hx⟩
theorem Qg7 {n:Int} (h:(Lit.int .i64 n).wf=true): -9223372036854775808≤n∧n≤9223372036854775807:=by
 have:=h
 simp [Lit.wf,IntKind.min,IntKind.max,IntKind.signed,IntKind.bits]at this
 omega
theorem Qpv {c:List PV} (h:Qb4 (.int .i64) c): ∃n:Int,TT.mk (.int .i64) c= .int .i64 n∧i64 n:=by
 obtain⟨n,e,w⟩:=Q95 h
 exact⟨n,e,Qg7 w⟩
def vecT:TT:= .agg [.int .i64,.int .i64,.int .i64]
theorem Qww {c:List PV} (h:Qb4 vecT c): ∃x y z:Int,vecT.mk c= .agg [.int .i64 x,.int .i64 y,.int .i64 z]:=by
 simp only [vecT,Qb4,Qfp]at h
 obtain⟨_,_,rfl,⟨x,rfl,_⟩,_,_,rfl,⟨y,rfl,_⟩,_,_,rfl,⟨z,rfl,_⟩,rfl⟩:=h
 exact⟨x,y,z,rfl⟩
def Qju:TT:= .agg [vecT,vecT,.int .i64,.int .i64,vecT]
theorem Q2z {c:List PV} (h:Qb4 Qju c): ∃w:Wd,Qju.mk c=wdPV w:=by
 simp only [Qju,vecT,Qb4,Qfp]at h
 obtain⟨_,_,rfl,⟨_,_,rfl,⟨a1,rfl,_⟩,_,_,rfl,⟨a2,rfl,_⟩,_,_,rfl,⟨a3,rfl,_⟩,rfl⟩,_,_,rfl,⟨_,_,rfl,⟨b1,rfl,_⟩,_,_,rfl,⟨b2,rfl,_⟩,_,_,rfl,⟨b3,rfl,_⟩,rfl⟩,_,_,rfl,⟨f,rfl,_⟩,_,_,rfl,⟨t,rfl,_⟩,
  _,_,rfl,⟨_,_,rfl,⟨u1,rfl,_⟩,_,_,rfl,⟨u2,rfl,_⟩,_,_,rfl,⟨u3,rfl,_⟩,rfl⟩,rfl⟩:=h
 exact⟨⟨a1,a2,a3,b1,b2,b3,f,t,u1,u2,u3⟩,rfl⟩
theorem Qec {c:List PV} (h:Qb4 (.slc Qju) c): ∃l:List Wd,TT.mk (.slc Qju) c=wsPV l∧l.length≤maxLen:=by
 simp only [Qb4]at h
 obtain⟨ess,rfl,hm,h⟩:=h
 have key: ∀ess:List (List PV),(∀c∈ess,Qb4 Qju c)→ ∃l:List Wd,ess.map Qju.mk=l.map wdPV∧l.length=ess.length:=by
  intro ess
  induction ess with
  |nil=>exact fun _=>⟨[],rfl,rfl⟩
  |cons c cs ih=>
   intro h
   obtain⟨s,e⟩:=Q2z (h c (by simp))
   obtain⟨l,hl,hn⟩:=ih (fun c hc=>h c (by simp [hc]))
   exact⟨s::l,by simp [e,hl],by simp [hn]⟩
 obtain⟨l,e,hn⟩:=key ess h
 exact⟨l,by simp only [TT.mk,List.headD_cons];rw [e],by omega⟩
def segT:TT:= .agg [.int .i64,.int .i64,.int .i64,.slc (.int .i64),.slc (.int .i64),.slc (.int .i64)]
theorem Qin: ∀ess:List (List PV),(∀c∈ess,Qb4 (.int .i64) c)→ ∃l:List Int,ess.map (TT.mk (.int .i64))=l.map (PV.int .i64)∧l.length=ess.length∧ ∀x∈l,i64 x
 | [],_=>⟨[],rfl,rfl,fun _ h=>nomatch h⟩
 |c::cs,h=>by
  obtain⟨n,e,b⟩:=Qpv (h c (by simp))
  obtain⟨l,hl,hn,hx⟩:=Qin cs (fun c hc=>h c (by simp [hc]))
  refine⟨n::l,by simp [e,hl],by simp [hn],fun x hx'=> ?_⟩
  cases hx' with
  |head=>exact b
  |tail _ h=>exact hx x h
theorem Q96 {c:List PV} (h:Qb4 segT c): ∃s:Sg,segT.mk c=sgPV s∧rawW s:=by
 simp only [segT,Qb4,Qfp]at h
 obtain⟨_,_,rfl,⟨f,rfl,hf⟩,_,_,rfl,⟨t,rfl,ht⟩,_,_,rfl,⟨o,rfl,ho⟩,_,_,rfl,⟨ex,rfl,mx,hx⟩,_,_,rfl,⟨ey,rfl,my,hy⟩,_,_,rfl,⟨ez,rfl,mz,hz⟩,rfl⟩:=h
 obtain⟨lx,e1,n1,b1⟩:=Qin ex (fun c hc=>by have:=hx c hc;simpa only [Qb4]using this)
 obtain⟨ly,e2,n2,b2⟩:=Qin ey (fun c hc=>by have:=hy c hc;simpa only [Qb4]using this)
 obtain⟨lz,e3,n3,b3⟩:=Qin ez (fun c hc=>by have:=hz c hc;simpa only [Qb4]using this)
 refine⟨⟨f,t,o,lx,ly,lz⟩,?_,Qg7 hf,Qg7 ht,Qg7 ho,?_⟩
 ·show PV.agg [.int .i64 f,.int .i64 t,.int .i64 o,.slc (ex.map (TT.mk (.int .i64))),.slc (ey.map (TT.mk (.int .i64))),.slc (ez.map (TT.mk (.int .i64)))]=_
  rw [e1,e2,e3];rfl
 ·intro c hc
  simp only [Sg.ax,List.mem_cons,List.not_mem_nil,or_false]at hc
  rcases hc with rfl|rfl|rfl
  ·exact⟨b1,by omega⟩
  ·exact⟨b2,by omega⟩
  ·exact⟨b3,by omega⟩
theorem Qr8 {c:List PV} (h:Qb4 (.slc segT) c): ∃p:List Sg,TT.mk (.slc segT) c= .slc (p.map sgPV)∧((∀s∈p,rawW s)∧p.length≤maxLen):=by
 simp only [Qb4]at h
 obtain⟨ess,rfl,hm,h⟩:=h
 have key: ∀ess:List (List PV),(∀c∈ess,Qb4 segT c)→ ∃l:List Sg,ess.map segT.mk=l.map sgPV∧l.length=ess.length∧ ∀s∈l,rawW s:=by
  intro ess
  induction ess with
  |nil=>exact fun _=>⟨[],rfl,rfl,fun _ h=>nomatch h⟩
  |cons c cs ih=>
   intro h
   obtain⟨s,e,b⟩:=Q96 (h c (by simp))
   obtain⟨l,hl,hn,hx⟩:=ih (fun c hc=>h c (by simp [hc]))
   refine⟨s::l,by simp [e,hl],by simp [hn],fun x hx'=> ?_⟩
   cases hx' with
   |head=>exact b
   |tail _ h=>exact hx x h
 obtain⟨l,e,hn,hx⟩:=key ess h
 exact⟨l,by simp only [TT.mk,List.headD_cons];rw [e],hx,by omega⟩
def Q20:Value:= .agg #[.int .i64 0,.int .i64 0,.int .i64 0]
end Go.Proofs.YtciddhkfbgkejaaGreatDoor
