/-
  LF22, LF25, LF26, By, UZ2, LF20, LF21, Dg, LA1, Dn, LA2, Dm, LA3, LA4, LA5, LA6, LA7, LA8, Dt, LA9, Db, LA10 (merged for the claim).
-/
import Derived.Test.YtjlkapdmgjocdaaGreatLF14
import Derived.Test.YtjlkapdmgjocdaaGreatLF4
import Derived.Test.YtjlkapdmgjocdaaGreatUY
import Derived.Test.YtjlkapdmgjocdaaGreatDsg
set_option linter.unusedSimpArgs false
set_option linter.unusedVariables false
namespace Go.Proofs.YtjlkapdmgjocdaaGreat
open Go.Vl Go.RowKit Go.Dg
theorem Zn6 (l:List Int) (hl:l.length≤1000000):Qaf Tryz.prog 55 [.slc (l.map (PV.int .i64)),.slc (l.map (PV.int .i64))] (.bool true):=by
 have hne:((l.length:Int) != (l.length:Int))=false:=bne_self_eq_false _;refine Qab (tb:=[]) 26 [.tmp 4] [0,1,4,5,10,12,13,14,24] mixed Tryz.func55 rfl (by kernel_rfl) (by kernel_rfl) (by kernel_rfl) (by kernel_rfl) ?_;repeat (first|(simp -implicitDefEqProofs only [go_sem,Nat.reduceAdd,Nat.reduceMul,Nat.reduceEqDiff,Nat.reduceLT,Nat.reduceLeDiff,reduceCtorEq,hne,List.length_map]))
 refine Qar mixed (fun k:{k:Nat // k≤l.length}=>St.of [(0,.slc (l.map (PV.int .i64))),(1,.slc (l.map (PV.int .i64))),(12,.int .i64 (l.length:Int)),(13,.int .i64 (k.1:Int))] []) (fun k=>l.length-k.1) ⟨0,Nat.zero_le _⟩ ?_ ?_
 ·refine Qaj (θ:=[]) rfl ?_ ?_
  ·simp [Qac,lkp,ren1,ren0,Qai]
  ·trivial
 ·rintro⟨k,hk⟩;simp only;by_cases hA:k<l.length
  ·have hA':=lt_T hA;have n0:=nn_T k;have hwk:=wr_1 (n:=k) (by omega);obtain⟨x,hx⟩: ∃x,l[k]? =some x:=⟨l[k],List.getElem?_eq_getElem hA⟩;have g:(l.map (PV.int .i64))[k]? =some ((PV.int .i64) x):=by rw [List.getElem?_map,hx];rfl
   skip
   repeat (first|(simp -implicitDefEqProofs only [go_sem,Nat.reduceAdd,Nat.reduceMul,Nat.reduceEqDiff,Nat.reduceLT,Nat.reduceLeDiff,reduceCtorEq,hA',n0,g,hwk,bne_self_eq_false,BEq.rfl,Int.toNat_natCast])|(with_reducible refine And.intro (Qae _ _ (by kernel_rfl)) ?_))
   refine⟨⟨k+1,hA⟩,by simp only;omega,?_⟩;refine Qaj (θ:=[]) rfl ?_ ?_
   ·simp [Qac,lkp,ren1,ren0,Qai]
   ·trivial
  ·have hA':=lt_F hA;repeat (first|(simp -implicitDefEqProofs only [go_sem,Nat.reduceAdd,Nat.reduceMul,Nat.reduceEqDiff,Nat.reduceLT,Nat.reduceLeDiff,reduceCtorEq,hA']))
theorem Zye (l:List ByteArray) (hl:l.length≤1000000):Qaf Tryz.prog 56 [.slc (l.map PV.str),.slc (l.map PV.str)] (.bool true):=by
 have hne:((l.length:Int) != (l.length:Int))=false:=bne_self_eq_false _;refine Qab (tb:=[]) 26 [.tmp 4] [0,1,4,5,10,12,13,14,24] mixed Tryz.func56 rfl (by kernel_rfl) (by kernel_rfl) (by kernel_rfl) (by kernel_rfl) ?_;repeat (first|(simp -implicitDefEqProofs only [go_sem,Nat.reduceAdd,Nat.reduceMul,Nat.reduceEqDiff,Nat.reduceLT,Nat.reduceLeDiff,reduceCtorEq,hne,List.length_map]))
 refine Qar mixed (fun k:{k:Nat // k≤l.length}=>St.of [(0,.slc (l.map PV.str)),(1,.slc (l.map PV.str)),(12,.int .i64 (l.length:Int)),(13,.int .i64 (k.1:Int))] []) (fun k=>l.length-k.1) ⟨0,Nat.zero_le _⟩ ?_ ?_
 ·refine Qaj (θ:=[]) rfl ?_ ?_
  ·simp [Qac,lkp,ren1,ren0,Qai]
  ·trivial
 ·rintro⟨k,hk⟩;simp only;by_cases hA:k<l.length
  ·have hA':=lt_T hA;have n0:=nn_T k;have hwk:=wr_1 (n:=k) (by omega);obtain⟨x,hx⟩: ∃x,l[k]? =some x:=⟨l[k],List.getElem?_eq_getElem hA⟩;have g:(l.map PV.str)[k]? =some (PV.str x):=by rw [List.getElem?_map,hx];rfl
   skip
   repeat (first|(simp -implicitDefEqProofs only [go_sem,Nat.reduceAdd,Nat.reduceMul,Nat.reduceEqDiff,Nat.reduceLT,Nat.reduceLeDiff,reduceCtorEq,hA',n0,g,hwk,BEq.rfl,Bool.not_true,Int.toNat_natCast])|(with_reducible refine And.intro (Qae _ _ (by kernel_rfl)) ?_))
   refine⟨⟨k+1,hA⟩,by simp only;omega,?_⟩;refine Qaj (θ:=[]) rfl ?_ ?_
   ·simp [Qac,lkp,ren1,ren0,Qai]
   ·trivial
  ·have hA':=lt_F hA;repeat (first|(simp -implicitDefEqProofs only [go_sem,Nat.reduceAdd,Nat.reduceMul,Nat.reduceEqDiff,Nat.reduceLT,Nat.reduceLeDiff,reduceCtorEq,hA']))
theorem Zyf (l:List V3) (hl:l.length≤1000000):Qaf Tryz.prog 57 [.slc (l.map v3PV),.slc (l.map v3PV)] (.bool true):=by
 have hne:((l.length:Int) != (l.length:Int))=false:=bne_self_eq_false _;refine Qab (tb:=[]) 26 [.tmp 4] [0,1,4,5,10,12,13,14,24] mixed Tryz.func57 rfl (by kernel_rfl) (by kernel_rfl) (by kernel_rfl) (by kernel_rfl) ?_;repeat (first|(simp -implicitDefEqProofs only [go_sem,Nat.reduceAdd,Nat.reduceMul,Nat.reduceEqDiff,Nat.reduceLT,Nat.reduceLeDiff,reduceCtorEq,hne,List.length_map]))
 refine Qar mixed (fun k:{k:Nat // k≤l.length}=>St.of [(0,.slc (l.map v3PV)),(1,.slc (l.map v3PV)),(12,.int .i64 (l.length:Int)),(13,.int .i64 (k.1:Int))] []) (fun k=>l.length-k.1) ⟨0,Nat.zero_le _⟩ ?_ ?_
 ·refine Qaj (θ:=[]) rfl ?_ ?_
  ·simp [Qac,lkp,ren1,ren0,Qai]
  ·trivial
 ·rintro⟨k,hk⟩;simp only;by_cases hA:k<l.length
  ·have hA':=lt_T hA;have n0:=nn_T k;have hwk:=wr_1 (n:=k) (by omega);obtain⟨x,hx⟩: ∃x,l[k]? =some x:=⟨l[k],List.getElem?_eq_getElem hA⟩;have g:(l.map v3PV)[k]? =some (v3PV x):=by rw [List.getElem?_map,hx];rfl
   simp only [v3PV]at g;repeat (first|(simp -implicitDefEqProofs only [go_sem,Nat.reduceAdd,Nat.reduceMul,Nat.reduceEqDiff,Nat.reduceLT,Nat.reduceLeDiff,reduceCtorEq,hA',n0,g,hwk,BEq.rfl,Bool.not_true,Int.toNat_natCast])|(with_reducible refine And.intro (Qae _ _ (by kernel_rfl)) ?_))
   refine⟨⟨k+1,hA⟩,by simp only;omega,?_⟩;refine Qaj (θ:=[]) rfl ?_ ?_
   ·simp [Qac,lkp,ren1,ren0,Qai]
   ·trivial
  ·have hA':=lt_F hA;repeat (first|(simp -implicitDefEqProofs only [go_sem,Nat.reduceAdd,Nat.reduceMul,Nat.reduceEqDiff,Nat.reduceLT,Nat.reduceLeDiff,reduceCtorEq,hA']))
theorem Zyg (l:List Mv) (hl:l.length≤1000000):Qaf Tryz.prog 60 [.slc (l.map mvV),.slc (l.map mvV)] (.bool true):=by
 have hne:((l.length:Int) != (l.length:Int))=false:=bne_self_eq_false _;refine Qab (tb:=[]) 26 [.tmp 4] [0,1,4,5,10,12,13,14,24] mixed Tryz.func60 rfl (by kernel_rfl) (by kernel_rfl) (by kernel_rfl) (by kernel_rfl) ?_;repeat (first|(simp -implicitDefEqProofs only [go_sem,Nat.reduceAdd,Nat.reduceMul,Nat.reduceEqDiff,Nat.reduceLT,Nat.reduceLeDiff,reduceCtorEq,hne,List.length_map]))
 refine Qar mixed (fun k:{k:Nat // k≤l.length}=>St.of [(0,.slc (l.map mvV)),(1,.slc (l.map mvV)),(12,.int .i64 (l.length:Int)),(13,.int .i64 (k.1:Int))] []) (fun k=>l.length-k.1) ⟨0,Nat.zero_le _⟩ ?_ ?_
 ·refine Qaj (θ:=[]) rfl ?_ ?_
  ·simp [Qac,lkp,ren1,ren0,Qai]
  ·trivial
 ·rintro⟨k,hk⟩;simp only;by_cases hA:k<l.length
  ·have hA':=lt_T hA;have n0:=nn_T k;have hwk:=wr_1 (n:=k) (by omega);obtain⟨x,hx⟩: ∃x,l[k]? =some x:=⟨l[k],List.getElem?_eq_getElem hA⟩;have g:(l.map mvV)[k]? =some (mvV x):=by rw [List.getElem?_map,hx];rfl
   simp only [mvV]at g;repeat (first|(simp -implicitDefEqProofs only [go_sem,Nat.reduceAdd,Nat.reduceMul,Nat.reduceEqDiff,Nat.reduceLT,Nat.reduceLeDiff,reduceCtorEq,hA',n0,g,hwk,BEq.rfl,Bool.not_true,Int.toNat_natCast])|(with_reducible refine And.intro (Qae _ _ (by kernel_rfl)) ?_))
   refine⟨⟨k+1,hA⟩,by simp only;omega,?_⟩;refine Qaj (θ:=[]) rfl ?_ ?_
   ·simp [Qac,lkp,ren1,ren0,Qai]
   ·trivial
  ·have hA':=lt_F hA;repeat (first|(simp -implicitDefEqProofs only [go_sem,Nat.reduceAdd,Nat.reduceMul,Nat.reduceEqDiff,Nat.reduceLT,Nat.reduceLeDiff,reduceCtorEq,hA']))
theorem Zyh (a:Ac) (h:a.mv.length≤1000000):Qaf Tryz.prog 59 [acV a,acV a] (.bool true):=by
 have hM:=Zyg a.mv h;unfold acV;refine Qab (tb:=[]) 24 [.tmp 4] [0,1,2,3,4] mixed Tryz.func59 rfl (by kernel_rfl) (by kernel_rfl) (by kernel_rfl) (by kernel_rfl) ?_;repeat (first|(simp -implicitDefEqProofs only [go_sem,Nat.reduceAdd,Nat.reduceMul,Nat.reduceEqDiff,Nat.reduceLT,Nat.reduceLeDiff,reduceCtorEq,BEq.rfl,Bool.and_self])|((with_reducible refine Qaa hM ?_ ?_ ?_);rfl;rfl))
theorem Zyi (s:Sg) (hs:s.x.length≤1000000∧s.y.length≤1000000∧s.z.length≤1000000):Qaf Tryz.prog 54 [sgV s,sgV s] (.bool true):=by
 have h1:=Zn6 s.x hs.1;have h2:=Zn6 s.y hs.2.1;have h3:=Zn6 s.z hs.2.2;unfold sgV;refine Qab (tb:=[]) 45 [.tmp 4] [0,1,2,3,4] mixed Tryz.func54 rfl (by kernel_rfl) (by kernel_rfl) (by kernel_rfl) (by kernel_rfl) ?_;repeat (first|(simp -implicitDefEqProofs only [go_sem,Nat.reduceAdd,Nat.reduceMul,Nat.reduceEqDiff,Nat.reduceLT,Nat.reduceLeDiff,reduceCtorEq,BEq.rfl,Bool.and_self])|((with_reducible refine Qaa h1 ?_ ?_ ?_);rfl;rfl)|((with_reducible refine Qaa h2 ?_ ?_ ?_);rfl;rfl)|((with_reducible refine Qaa h3 ?_ ?_ ?_);rfl;rfl))
theorem Zu3 (l:List Ac) (hl:l.length≤1000000) (hs: ∀a∈l,a.mv.length≤1000000):Qaf Tryz.prog 58 [.slc (l.map acV),.slc (l.map acV),.fn 59 [] []] (.bool true):=by
 have hne:((l.length:Int) != (l.length:Int))=false:=bne_self_eq_false _;refine Qab (tb:=[]) 32 [.tmp 6] [0,1,2,6,7,8,9,14,15,16,17,18,30] mixed Tryz.func58 rfl (by kernel_rfl) (by kernel_rfl) (by kernel_rfl) (by kernel_rfl) ?_;repeat (first|(simp -implicitDefEqProofs only [go_sem,Nat.reduceAdd,Nat.reduceMul,Nat.reduceEqDiff,Nat.reduceLT,Nat.reduceLeDiff,reduceCtorEq,hne,List.length_map]))
 refine Qar mixed (fun k:{k:Nat // k≤l.length}=>St.of [(1,.slc (l.map acV)),(2,.fn 59 [] []),(15,.slc (l.map acV)),(16,.int .i64 (l.length:Int)),(17,.int .i64 (k.1:Int))] []) (fun k=>l.length-k.1) ⟨0,Nat.zero_le _⟩ ?_ ?_
 ·refine Qaj (θ:=[]) rfl ?_ ?_
  ·simp [Qac,lkp,ren1,ren0,Qai]
  ·trivial
 ·rintro⟨k,hk⟩;simp only;by_cases hA:k<l.length
  ·have hA':=lt_T hA;have n0:=nn_T k;have hwk:=wr_1 (n:=k) (by omega);obtain⟨x,hx⟩: ∃x,l[k]? =some x:=⟨l[k],List.getElem?_eq_getElem hA⟩;have g:(l.map acV)[k]? =some (acV x):=by rw [List.getElem?_map,hx];rfl
   have hE:=Zyh x (hs x (List.mem_of_getElem? hx));simp only [acV]at g hE;repeat (first|(simp -implicitDefEqProofs only [go_sem,Nat.reduceAdd,Nat.reduceMul,Nat.reduceEqDiff,Nat.reduceLT,Nat.reduceLeDiff,reduceCtorEq,hA',n0,g,hwk,BEq.rfl,Bool.not_true,Bool.and_self,Int.toNat_natCast])|((with_reducible refine Qaa hE ?_ ?_ ?_);rfl;rfl))
   refine⟨⟨k+1,hA⟩,by simp only;omega,?_⟩;refine Qaj (θ:=[]) rfl ?_ ?_
   ·simp [Qac,lkp,ren1,ren0,Qai]
   ·trivial
  ·have hA':=lt_F hA;repeat (first|(simp -implicitDefEqProofs only [go_sem,Nat.reduceAdd,Nat.reduceMul,Nat.reduceEqDiff,Nat.reduceLT,Nat.reduceLeDiff,reduceCtorEq,hA']))
theorem Zu4 (l:List Sg) (hl:l.length≤1000000) (hs: ∀s∈l,s.x.length≤1000000∧s.y.length≤1000000∧s.z.length≤1000000):Qaf Tryz.prog 53 [.slc (l.map sgV),.slc (l.map sgV),.fn 54 [] []] (.bool true):=by
 have hne:((l.length:Int) != (l.length:Int))=false:=bne_self_eq_false _;refine Qab (tb:=[]) 32 [.tmp 6] [0,1,2,6,7,8,9,14,15,16,17,18,30] mixed Tryz.func53 rfl (by kernel_rfl) (by kernel_rfl) (by kernel_rfl) (by kernel_rfl) ?_;repeat (first|(simp -implicitDefEqProofs only [go_sem,Nat.reduceAdd,Nat.reduceMul,Nat.reduceEqDiff,Nat.reduceLT,Nat.reduceLeDiff,reduceCtorEq,hne,List.length_map]))
 refine Qar mixed (fun k:{k:Nat // k≤l.length}=>St.of [(1,.slc (l.map sgV)),(2,.fn 54 [] []),(15,.slc (l.map sgV)),(16,.int .i64 (l.length:Int)),(17,.int .i64 (k.1:Int))] []) (fun k=>l.length-k.1) ⟨0,Nat.zero_le _⟩ ?_ ?_
 ·refine Qaj (θ:=[]) rfl ?_ ?_
  ·simp [Qac,lkp,ren1,ren0,Qai]
  ·trivial
 ·rintro⟨k,hk⟩;simp only;by_cases hA:k<l.length
  ·have hA':=lt_T hA;have n0:=nn_T k;have hwk:=wr_1 (n:=k) (by omega);obtain⟨x,hx⟩: ∃x,l[k]? =some x:=⟨l[k],List.getElem?_eq_getElem hA⟩;have g:(l.map sgV)[k]? =some (sgV x):=by rw [List.getElem?_map,hx];rfl
   have hE:=Zyi x (hs x (List.mem_of_getElem? hx));simp only [sgV]at g hE;repeat (first|(simp -implicitDefEqProofs only [go_sem,Nat.reduceAdd,Nat.reduceMul,Nat.reduceEqDiff,Nat.reduceLT,Nat.reduceLeDiff,reduceCtorEq,hA',n0,g,hwk,BEq.rfl,Bool.not_true,Bool.and_self,Int.toNat_natCast])|((with_reducible refine Qaa hE ?_ ?_ ?_);rfl;rfl))
   refine⟨⟨k+1,hA⟩,by simp only;omega,?_⟩;refine Qaj (θ:=[]) rfl ?_ ?_
   ·simp [Qac,lkp,ren1,ren0,Qai]
   ·trivial
  ·have hA':=lt_F hA;repeat (first|(simp -implicitDefEqProofs only [go_sem,Nat.reduceAdd,Nat.reduceMul,Nat.reduceEqDiff,Nat.reduceLT,Nat.reduceLeDiff,reduceCtorEq,hA']))
theorem Qy3 (l:List Sg) (hl:l.length≤1000000) (hs: ∀s∈l,s.x.length≤1000000∧s.y.length≤1000000∧s.z.length≤1000000):Qaf Tryz.prog 32 [pV l,pV l] (.bool true):=by
 have h:=Zu4 l hl hs;unfold pV;refine Qab (tb:=[]) 8 [.tmp 4] [0,1,4] mixed Tryz.func32 rfl (by kernel_rfl) (by kernel_rfl) (by kernel_rfl) (by kernel_rfl) ?_;repeat (first|(simp -implicitDefEqProofs only [go_sem,Nat.reduceAdd,Nat.reduceMul,Nat.reduceEqDiff,Nat.reduceLT,Nat.reduceLeDiff,reduceCtorEq])|((with_reducible refine Qaa h ?_ ?_ ?_);rfl;rfl))
theorem Zu5 (p:Pg) (hp:okP p):Qaf Tryz.prog 33 [pgV p,pgV p] (.bool true):=by
 have h1:=Zye p.ns (by have:=hp.n;omega);have h2:=Zyf p.hs (by have:=hp.h;omega);have h3:=Zu3 p.as_ (by have:=hp.a;omega) (fun a ha=>by
  obtain⟨i,hi,rfl⟩:=List.getElem_of_mem ha;have:=(hp.m i).1;rw [List.getD_eq_getElem?_getD,List.getElem?_eq_getElem hi]at this;simp only [Option.getD_some]at this;omega)
 unfold pgV;refine Qab (tb:=[]) 24 [.tmp 4] [0,1,2,3,4] mixed Tryz.func33 rfl (by kernel_rfl) (by kernel_rfl) (by kernel_rfl) (by kernel_rfl) ?_;repeat (first|(simp -implicitDefEqProofs only [go_sem,Nat.reduceAdd,Nat.reduceMul,Nat.reduceEqDiff,Nat.reduceLT,Nat.reduceLeDiff,reduceCtorEq])|((with_reducible refine Qaa h1 ?_ ?_ ?_);rfl;rfl)|((with_reducible refine Qaa h2 ?_ ?_ ?_);rfl;rfl)|((with_reducible refine Qaa h3 ?_ ?_ ?_);rfl;rfl))
end Go.Proofs.YtjlkapdmgjocdaaGreat

namespace Go.Proofs.YtjlkapdmgjocdaaGreat
open Go.Vl Go.RowKit Go.Dg
theorem Zd6 (l:List ByteArray):(((l.map PV.str).flatMap PV.cells).all PV.okCell)=true:=by
 rw [List.all_flatMap,List.all_map,List.all_eq_true];intro _ _;rfl
theorem Zd7 (l:List ByteArray):((l.map PV.str).all fun e=>e.cells.length==1&&e.cells.all PV.okCell)=true:=by
 rw [List.all_map,List.all_eq_true];intro _ _;rfl
theorem Zd8 (l:List ByteArray) (hl2:l.length≤100000):Qaf Tryz.prog 47 [.slc (l.map PV.str)] (.slc (l.map PV.str)):=by
 have h1:(l.length*16≤140737488355328)=True:=eq_true (by omega);have h2:(l.length≤maxLen)=True:=eq_true (by unfold maxLen;omega);have h3:(l.map PV.str).take l.length=l.map PV.str:=List.take_of_length_le (by simp);have h4:=Zd6 l;have h5:=Zd7 l;by_cases hl:l=[]
 ·subst hl;refine Qab (tb:=[]) 8 [.tmp 2] [0,2,4] mixed Tryz.func47 rfl (by kernel_rfl) (by kernel_rfl) (by kernel_rfl) (by kernel_rfl) ?_;repeat (first|(simp -implicitDefEqProofs only [go_sem,Nat.reduceAdd,Nat.reduceMul,Nat.reduceEqDiff,Nat.reduceLT,Nat.reduceLeDiff,reduceIte,reduceCtorEq,List.map_nil,List.isEmpty_nil]))
 have h0:(l.map PV.str).isEmpty=false:=by cases l with|nil=>exact absurd rfl hl|cons=>rfl
 refine Qab (tb:=[]) 8 [.tmp 2] [0,2,4] mixed Tryz.func47 rfl (by kernel_rfl) (by kernel_rfl) (by kernel_rfl) (by kernel_rfl) ?_;repeat (first|(simp -implicitDefEqProofs only [go_sem,Nat.reduceAdd,Nat.reduceMul,Nat.reduceEqDiff,Nat.reduceLT,Nat.reduceLeDiff,reduceIte,reduceCtorEq,h0,List.length_map,h1,h2,h3,h5]))
theorem Zd9 (l:List V3):(((l.map v3PV).flatMap PV.cells).all PV.okCell)=true:=by
 rw [List.all_flatMap,List.all_map,List.all_eq_true];intro _ _;rfl
theorem Zea (l:List V3):((l.map v3PV).all fun e=>e.cells.length==3&&e.cells.all PV.okCell)=true:=by
 rw [List.all_map,List.all_eq_true];intro _ _;rfl
theorem Q0w (l:List V3) (hl2:l.length≤100000):Qaf Tryz.prog 48 [.slc (l.map v3PV)] (.slc (l.map v3PV)):=by
 have h1:(l.length*24≤140737488355328)=True:=eq_true (by omega);have h2:(l.length≤maxLen)=True:=eq_true (by unfold maxLen;omega);have h3:(l.map v3PV).take l.length=l.map v3PV:=List.take_of_length_le (by simp);have h4:=Zd9 l;have h5:=Zea l;by_cases hl:l=[]
 ·subst hl;refine Qab (tb:=[]) 8 [.tmp 2] [0,2,4] mixed Tryz.func48 rfl (by kernel_rfl) (by kernel_rfl) (by kernel_rfl) (by kernel_rfl) ?_;repeat (first|(simp -implicitDefEqProofs only [go_sem,Nat.reduceAdd,Nat.reduceMul,Nat.reduceEqDiff,Nat.reduceLT,Nat.reduceLeDiff,reduceIte,reduceCtorEq,List.map_nil,List.isEmpty_nil]))
 have h0:(l.map v3PV).isEmpty=false:=by cases l with|nil=>exact absurd rfl hl|cons=>rfl
 refine Qab (tb:=[]) 8 [.tmp 2] [0,2,4] mixed Tryz.func48 rfl (by kernel_rfl) (by kernel_rfl) (by kernel_rfl) (by kernel_rfl) ?_;repeat (first|(simp -implicitDefEqProofs only [go_sem,Nat.reduceAdd,Nat.reduceMul,Nat.reduceEqDiff,Nat.reduceLT,Nat.reduceLeDiff,reduceIte,reduceCtorEq,h0,List.length_map,h1,h2,h3,h5]))
end Go.Proofs.YtjlkapdmgjocdaaGreat

namespace Go.Proofs.YtjlkapdmgjocdaaGreat
open Go.Vl Go.RowKit Go.Dg
theorem Zn9 (l:List Mv):(((l.map mvV).flatMap PV.cells).all PV.okCell)=true:=by
 rw [List.all_flatMap,List.all_map,List.all_eq_true];intro _ _;rfl
theorem Zoa (l:List Mv):((l.map mvV).all fun e=>e.cells.length==6&&e.cells.all PV.okCell)=true:=by
 rw [List.all_map,List.all_eq_true];intro _ _;rfl
theorem Zeb (l:List Mv) (hl2:l.length≤100000):Qaf Tryz.prog 50 [.slc (l.map mvV)] (.slc (l.map mvV)):=by
 have h1:(l.length*48≤140737488355328)=True:=eq_true (by omega);have h2:(l.length≤maxLen)=True:=eq_true (by unfold maxLen;omega);have h3:(l.map mvV).take l.length=l.map mvV:=List.take_of_length_le (by simp);have h4:=Zn9 l;have h5:=Zoa l;by_cases hl:l=[]
 ·subst hl;refine Qab (tb:=[]) 8 [.tmp 2] [0,2,4] mixed Tryz.func50 rfl (by kernel_rfl) (by kernel_rfl) (by kernel_rfl) (by kernel_rfl) ?_;repeat (first|(simp -implicitDefEqProofs only [go_sem,Nat.reduceAdd,Nat.reduceMul,Nat.reduceEqDiff,Nat.reduceLT,Nat.reduceLeDiff,reduceIte,reduceCtorEq,List.map_nil,List.isEmpty_nil]))
 have h0:(l.map mvV).isEmpty=false:=by cases l with|nil=>exact absurd rfl hl|cons=>rfl
 refine Qab (tb:=[]) 8 [.tmp 2] [0,2,4] mixed Tryz.func50 rfl (by kernel_rfl) (by kernel_rfl) (by kernel_rfl) (by kernel_rfl) ?_;repeat (first|(simp -implicitDefEqProofs only [go_sem,Nat.reduceAdd,Nat.reduceMul,Nat.reduceEqDiff,Nat.reduceLT,Nat.reduceLeDiff,reduceIte,reduceCtorEq,h0,List.length_map,h1,h2,h3,h5]))
theorem Zec (l:List Ac):(((l.map acV).flatMap PV.cells).all PV.okCell)=true:=by
 rw [List.all_flatMap,List.all_map,List.all_eq_true];intro _ _;rfl
theorem Zed (l:List Ac):((l.map acV).all fun e=>e.cells.length==3&&e.cells.all PV.okCell)=true:=by
 rw [List.all_map,List.all_eq_true];intro _ _;rfl
theorem Q52:Qaf Tryz.prog 49 [.slc []] (.slc []):=by
 have h1:(0*48≤140737488355328)=True:=eq_true (by omega);have h2:(0≤maxLen)=True:=eq_true (by unfold maxLen;omega);refine Qab (tb:=[]) 8 [.tmp 2] [0,2,4] mixed Tryz.func49 rfl (by kernel_rfl) (by kernel_rfl) (by kernel_rfl) (by kernel_rfl) ?_;repeat (first|(simp -implicitDefEqProofs only [go_sem,Nat.reduceAdd,Nat.reduceMul,Nat.reduceEqDiff,Nat.reduceLT,Nat.reduceLeDiff,reduceIte,reduceCtorEq,List.map_nil,List.isEmpty_nil,h1,h2]))
theorem Zee (l:List Ac) (hl:l≠ []) (hl2:l.length≤100000):Qdd Tryz.prog 49 [.slc (l.map acV)] [] (.bs 7 3 0 l.length) [(7,{els:=l.map acV,esz:=3,ety:=76,fro:=0,live:=true,arr:=true})]:=by
 have h1:(l.length*48≤140737488355328)=True:=eq_true (by omega);have h2:(l.length≤maxLen)=True:=eq_true (by unfold maxLen;omega);have h3:(l.map acV).take l.length=l.map acV:=List.take_of_length_le (by simp);have h4:=Zec l;have h5:=Zed l;have h0:(l.map acV).isEmpty=false:=by cases l with|nil=>exact absurd rfl hl|cons=>rfl
 refine Qcz (tb:=[]) 8 [.tmp 2] [0,2,4] mixed Tryz.func49 rfl (by kernel_rfl) (by kernel_rfl) (by kernel_rfl) (by kernel_rfl) (by rfl) ?_;repeat (first|(simp -implicitDefEqProofs only [go_sem,Nat.reduceAdd,Nat.reduceMul,Nat.reduceEqDiff,Nat.reduceLT,Nat.reduceLeDiff,reduceCtorEq,h0,List.length_map,h1,h2,h5]))
 refine Qb9 (.inl rfl) ?_;simp -implicitDefEqProofs only [go_sem,Nat.reduceEqDiff,reduceCtorEq];refine Qaj (θ:=[(7,302)]) rfl ?_ ?_
 ·simp [Qac,lkp,ren1,ren0,Qai]
 ·exact⟨⟨rfl,rfl,rfl,rfl,rfl,.inl ⟨rfl,rfl⟩⟩,trivial⟩
theorem Zob {p:Pg} {k:Nat} (h:k<p.as_.length):(p.as_.map acV)[k]? =some (.agg [.str (p.as_.getD k ac0).nm,.int .i64 (p.as_.getD k ac0).ln,.slc ((p.as_.getD k ac0).mv.map mvV)]):=by
 rw [List.getElem?_map,List.getElem?_eq_getElem h,List.getD_eq_getElem?_getD,List.getElem?_eq_getElem h];rfl
theorem Zef {l:List PV} {k:Nat} {x:PV} (h:l[k]? =some x):l.set k x=l:=by
 apply List.ext_getElem?;intro i;rw [List.getElem?_set];by_cases e:k=i
 ·subst e;rw [if_pos rfl,h,if_pos (List.getElem?_eq_some_iff.1 h).1]
 ·rw [if_neg e]
set_option maxHeartbeats 2000000 in
theorem Zu7 (p:Pg) (hp:okP p):Qaf Tryz.prog 29 [pgV p] (pgV p):=by
 have hpa:=hp.a;have hS:=Zd8 p.ns hp.n;have hH:=Q0w p.hs hp.h;unfold pgV;by_cases h0:p.as_=[]
 ·have hA:=Q52;rw [h0];rw [List.map_nil];have z0:((0:Nat):Int)=0:=rfl;refine Qab (tb:=[]) 36 [.cell 2 26] [0,1,2,3,18,19,20] mixed Tryz.func29 rfl (by kernel_rfl) (by kernel_rfl) (by kernel_rfl) (by kernel_rfl) ?_;repeat (first|(simp -implicitDefEqProofs only [go_sem,Nat.reduceAdd,Nat.reduceMul,Nat.reduceEqDiff,Nat.reduceLT,Nat.reduceLeDiff,reduceCtorEq,List.length_nil,z0])|((with_reducible refine Qaa hS ?_ ?_ ?_);rfl;rfl)|((with_reducible refine Qaa hH ?_ ?_ ?_);rfl;rfl)|((with_reducible refine Qaa hA ?_ ?_ ?_);rfl;rfl)|(with_reducible refine And.intro (Qae _ _ (by kernel_rfl)) ?_))
  refine Qar mixed (fun _:Unit=>St.of [(1,.bp 0 3 0 0),(2,.bp 1 3 0 0),(18,.int .i64 0),(19,.int .i64 0)]
   [(0,{els:=[.agg [.slc (p.ns.map PV.str),.slc (p.hs.map v3PV),.slc []]],esz:=3,ety:=26,fro:=0,live:=true,arr:=false}),(1,{els:=[.agg [.nilS,.nilS,.nilS]],esz:=3,ety:=26,fro:=0,live:=true,arr:=false})]) (fun _=>0) () ?_ ?_
  ·refine Qaj (θ:=[(0,0),(1,1)]) rfl ?_ ?_
   ·simp [Qac,lkp,ren1,ren0,Qai]
   ·exact⟨⟨rfl,rfl,rfl,rfl,rfl,.inr ⟨rfl,_,_,rfl,rfl,rfl,rfl⟩⟩,⟨rfl,rfl,rfl,rfl,rfl,.inr ⟨rfl,_,_,rfl,rfl,rfl,rfl⟩⟩,trivial⟩
  ·rintro⟨⟩;repeat (first|(simp -implicitDefEqProofs only [go_sem,Nat.reduceAdd,Nat.reduceMul,Nat.reduceEqDiff,Nat.reduceLT,Nat.reduceLeDiff,reduceCtorEq,Int.reduceLT]))
 have hA:=Zee p.as_ h0 hpa

 refine Qab (tb:=[(108,[],[(7,7)])]) 36 [.cell 2 26] [0,1,2,3,18,19,20] mixed Tryz.func29 rfl (by kernel_rfl) (by kernel_rfl) (by kernel_rfl) (by kernel_rfl) ?_;have bl7:(Nat.blt 7 1000000=true)=True:=eq_true rfl;repeat (first|(simp -implicitDefEqProofs only [go_sem,Nat.reduceAdd,Nat.reduceMul,Nat.reduceEqDiff,Nat.reduceLT,Nat.reduceLeDiff,reduceCtorEq,bl7,if_true])|((with_reducible refine Qaa hS ?_ ?_ ?_);rfl;rfl)|((with_reducible refine Qaa hH ?_ ?_ ?_);rfl;rfl)|((with_reducible refine Qbn hA ?_ ?_ ?_ ?_);rfl;rfl;rfl)|(with_reducible refine And.intro (Qae _ _ (by kernel_rfl)) ?_))
 refine Qar mixed (fun k:{k:Nat // k≤p.as_.length}=>St.of [(1,.bp 0 3 0 0),(2,.bp 1 3 0 0),(18,.int .i64 (p.as_.length:Int)),(19,.int .i64 (k.1:Int))]
  [(0,{els:=[.agg [.slc (p.ns.map PV.str),.slc (p.hs.map v3PV),.bs 7 3 0 p.as_.length]],esz:=3,ety:=26,fro:=0,live:=true,arr:=false}),(1,{els:=[.agg [.nilS,.nilS,.nilS]],esz:=3,ety:=26,fro:=0,live:=true,arr:=false}),(7,{els:=p.as_.map acV,esz:=3,ety:=76,fro:=0,live:=true,arr:=true})]) (fun k=>p.as_.length-k.1) ⟨0,Nat.zero_le _⟩ ?_ ?_
 ·refine Qaj (θ:=[(0,0),(1,1),(7,7)]) rfl ?_ ?_
  ·simp [Qac,lkp,ren1,ren0,Qai]
  ·exact⟨⟨rfl,rfl,rfl,rfl,rfl,.inr ⟨rfl,_,_,rfl,rfl,rfl,rfl⟩⟩,⟨rfl,rfl,rfl,rfl,rfl,.inr ⟨rfl,_,_,rfl,rfl,rfl,rfl⟩⟩,⟨rfl,rfl,rfl,rfl,rfl,.inl ⟨rfl,rfl⟩⟩,trivial⟩
 ·rintro⟨k,hk⟩;simp only;by_cases hA:k<p.as_.length
  ·have hA':=lt_T hA;have n0:=nn_T k;have hwk:=wr_1 (n:=k) (by omega);have hg:=Zob hA;have hM:=Zeb (p.as_.getD k ac0).mv (hp.m k).1;have hs:=Zef hg;generalize p.as_.getD k ac0=a at*;repeat (first|(simp -implicitDefEqProofs only [go_sem,Nat.reduceAdd,Nat.reduceMul,Nat.reduceEqDiff,Nat.reduceLT,Nat.reduceLeDiff,reduceCtorEq,hA',n0,hg,hwk,hs,Int.toNat_natCast])|((with_reducible refine Qaa hM ?_ ?_ ?_);rfl;rfl)|(with_reducible refine And.intro (Qae _ _ (by kernel_rfl)) ?_))
   refine⟨⟨k+1,hA⟩,by simp only;omega,?_⟩;refine Qaj (θ:=[(0,0),(1,1),(7,7)]) rfl ?_ ?_
   ·simp [Qac,lkp,ren1,ren0,Qai]
   ·exact⟨⟨rfl,rfl,rfl,rfl,rfl,.inr ⟨rfl,_,_,rfl,rfl,rfl,rfl⟩⟩,⟨rfl,rfl,rfl,rfl,rfl,.inr ⟨rfl,_,_,rfl,rfl,rfl,rfl⟩⟩,⟨rfl,rfl,rfl,rfl,rfl,.inl ⟨rfl,rfl⟩⟩,trivial⟩
  ·have hA':=lt_F hA;have htk:(p.as_.map acV).take p.as_.length=p.as_.map acV:=List.take_of_length_le (by simp);repeat (first|(simp -implicitDefEqProofs only [go_sem,Nat.reduceAdd,Nat.reduceMul,Nat.reduceEqDiff,Nat.reduceLT,Nat.reduceLeDiff,reduceIte,reduceCtorEq,hA',List.length_map,Nat.le_refl,htk]))
end Go.Proofs.YtjlkapdmgjocdaaGreat

namespace Go.Vl
open Go.RowKit
end Go.Vl

namespace Go.Vl
open Go.RowKit
theorem Zx2 {st:St} {b:Nat} {B B':Box} (hB:st.box b=some B) (hl:B.live=B'.live)
  (hbx: ∀(C:Ctx) (a:Act) (w:World) (ρ:Rho) (im:Im),Rel' C st a w ρ im→ ∀x,ρ b=some x→Qdb C.own w im ρ B x→Qdb C.own w im ρ B' x):Le st (st.setBox b B'):=by
 rintro C a w ⟨ρ,im,h⟩;refine⟨ρ,im,h.root,h.nt,h.dfr,h.imc,h.var,?_,?_,?_⟩
 ·intro b';by_cases e:b'=b
  ·subst e;simp [St.setBox,Qao,h.rho b',hB]
  ·simp [St.setBox,Qam _ _ _ _ e,h.rho b']
 ·intro b' x B1 hx hB1;by_cases e:b'=b
  ·subst e;simp only [St.setBox,Qao,Option.some.injEq]at hB1;subst hB1;exact hbx C a w ρ im h x hx (h.box b' x B hx hB)
  ·simp only [St.setBox,Qam _ _ _ _ e]at hB1;exact h.box b' x B1 hx hB1
 ·have key: ∀b' B1,(st.setBox b B').box b'=some B1→ ∃B0,st.box b'=some B0∧B0.live=B1.live:=fun b' B1 e=>by
   by_cases y:b'=b
   ·subst y;simp only [St.setBox,Qao,Option.some.injEq]at e;subst e;exact⟨B,hB,hl⟩
   ·exact⟨B1,by simpa only [St.setBox,Qam _ _ _ _ y]using e,rfl⟩
  intro b1 b2 g B1 B2 g1 g2 e1 e2 l1 l2;obtain⟨C1,x1,y1⟩:=key _ _ e1;obtain⟨C2,x2,y2⟩:=key _ _ e2;exact h.inj b1 b2 g C1 C2 g1 g2 x1 x2 (y1.trans l1) (y2.trans l2)
theorem Zty {st:St} {b:Nat} {B:Box} (hB:st.box b=some B) (hne:B.els≠ []):Le st (st.setBox b {B with arr:=false}):=by
 refine Zx2 hB rfl fun C a w ρ im h x hx hb=> ?_;cases x with
 |none=>exact absurd hb.1 hne
 |some g=>
  obtain⟨k1,k2,k3,k4,⟨hmn,cur,us,rest,k5,k6,k7,k8,k9,k10,k11⟩|hm⟩:=hb
  ·exact⟨k1,k2,k3,k4,.inl ⟨hmn,cur,us,rest,k5,k6,k7,(by intro q;cases q),k9,k10,k11⟩⟩
  ·exact absurd hm.1 hne
theorem Q0b {es:List PV} (h: ∀e∈es,e.cells=[e]):es.flatMap PV.cells=es:=by
 induction es with
 |nil=>rfl
 |cons e es ih=>
  simp only [List.flatMap_cons];rw [h e (by simp),ih fun e he=>h e (by simp [he])];rfl
theorem Ztz {st:St} {b j nb esz:Nat} {ety:TypeId} {B:Box} (hL:Nat.blt nb LENT=true) (hB:st.box b=some B) (ha:B.arr=false) (h1c: ∀e∈B.els,e.cells=[e]) (hj:B.els[j]? =some .nilS) (hn:st.box nb=none) (hz:0<esz):
  Le st ((st.setBox nb {els:=[],esz:=esz,ety:=ety,fro:=0,live:=true,arr:=true}).setBox b {B with els:=B.els.set j (.bs nb esz 0 0)}):=by
 have hbn:b≠nb:=by rintro rfl;rw [hB]at hn;cases hn
 rintro C a w ⟨ρ,im,h⟩;obtain⟨h1,h2⟩:=h.addBox ⟨.refl _ _ _,Keeps.refl _ _,fun _ x=> .inl x,fun _ _ x=>x,fun _ _ x=> .inl x⟩ h (Nat.le_of_ble_eq_true hL) hn {els:=[],esz:=esz,ety:=ety,fro:=0,live:=true,arr:=true} none (by intro g e;cases e) ⟨rfl,rfl,rfl,hz⟩ (by intro b' g B' e;cases e);have hB1:(st.setBox nb {els:=[],esz:=esz,ety:=ety,fro:=0,live:=true,arr:=true}).box b=some B:=by simp [St.setBox,Qam _ _ _ _ hbn,hB]
 generalize hst:st.setBox nb {els:=[],esz:=esz,ety:=ety,fro:=0,live:=true,arr:=true}=st1 at*;refine⟨upd ρ nb (some none),im,h1.root,h1.nt,h1.dfr,h1.imc,h1.var,?_,?_,?_⟩
 ·intro b';by_cases e:b'=b
  ·subst e;simp [St.setBox,Qao,h1.rho b',hB1]
  ·simp [St.setBox,Qam _ _ _ _ e,h1.rho b']
 ·intro b' x B' hx hB';by_cases e:b'=b
  ·subst e;simp only [St.setBox,Qao,Option.some.injEq]at hB';subst hB';have hb:=h1.box b' x B hx hB1;cases x with
   |none=>obtain⟨_,z1,_⟩:=hb;rw [ha]at z1;cases z1
   |some g=>
    obtain⟨k1,k2,k3,k4,⟨hmn,cur,us,rest,k5,k6,k7,k8,k9,k10,k11⟩|hm⟩:=hb
    case inr=>rw [hm.1]at hj;simp at hj
    have h1d: ∀e∈B.els.set j (.bs nb esz 0 0),e.cells=[e]:=by
     intro e he;rcases List.mem_or_eq_of_mem_set he with h|rfl
     ·exact h1c e h
     ·rfl
    rw [Q0b h1c]at k7;refine⟨k1,by simpa using k2,k3,?_,.inl ⟨hmn,cur,us,rest,k5,k6,?_,(by intro q;rw [ha]at q;cases q),k9,k10,k11⟩⟩
    ·intro e he;rcases List.mem_or_eq_of_mem_set he with h|rfl
     ·exact k4 e h
     ·have:=k4 .nilS (List.mem_of_getElem? hj);simpa [PV.cells]using this
    ·simp only;rw [Q0b h1d];refine LRL.setAt k7 hj fun u hu=> ?_;rw [hu.nilS_inv];exact .bsNil nb esz none (Qao _ _ _)
  ·simp only [St.setBox,Qam _ _ _ _ e]at hB';exact h1.box b' x B' hx hB'
 ·have key: ∀b' B',(st1.setBox b {B with els:=B.els.set j (.bs nb esz 0 0)}).box b'=some B'→ ∃B0,st1.box b'=some B0∧B0.live=B'.live:=fun b' B' e=>by
   by_cases y:b'=b
   ·subst y;simp only [St.setBox,Qao,Option.some.injEq]at e;subst e;exact⟨B,hB1,rfl⟩
   ·exact⟨B',by simpa only [St.setBox,Qam _ _ _ _ y]using e,rfl⟩
  intro b1 b2 g B1 B2 g1 g2 e1 e2 l1 l2;obtain⟨C1,x1,y1⟩:=key _ _ e1;obtain⟨C2,x2,y2⟩:=key _ _ e2;exact h1.inj b1 b2 g C1 C2 g1 g2 x1 x2 (y1.trans l1) (y2.trans l2)
section
variable {vs:List (Nat×PV)} {bs:List (Nat×Box)} {o:List (List PV)} {y:Yl}
theorem Zlr (b:Nat) {B:Box} (hB:lkp bs b=some B) (hne:B.els≠ []):Le (St.ofG vs bs o y) (St.ofG vs ((b,{B with arr:=false})::bs) o y):=Zty (st:=St.ofG vs bs o y) hB hne
theorem Qj9 (b j nb esz:Nat) (ety:TypeId) {B:Box} (hL:Nat.blt nb LENT=true) (hB:lkp bs b=some B) (ha:B.arr=false) (h1c: ∀e∈B.els,e.cells=[e]) (hj:B.els[j]? =some .nilS) (hn:lkp bs nb=none) (hz:0<esz):
  Le (St.ofG vs bs o y) (St.ofG vs ((b,{B with els:=B.els.set j (.bs nb esz 0 0)})::(nb,{els:=[],esz:=esz,ety:=ety,fro:=0,live:=true,arr:=true})::bs) o y):=Ztz (st:=St.ofG vs bs o y) hL hB ha h1c hj hn hz
end
end Go.Vl

namespace Go.Proofs.YtjlkapdmgjocdaaGreat
open Go.Vl Go.RowKit Go.Dg
def pthA (p:Pg) (i k:Nat):List Sg:=mvP ((Qch p k).getD i v0) ((p.as_.getD k ac0).mv.getD i mv0) (begT p k) (p.as_.getD k ac0).ln
def Qa1 (p:Pg) (i k:Nat):List Sg:=(List.range k).flatMap fun a=>pthA p i a
theorem Qf1 (p:Pg) (i k:Nat):Qa1 p i (k+1)=Qa1 p i k++pthA p i k:=by simp [Qa1,List.range_succ]
theorem Qkm (p:Pg) (i:Nat): ∀k,(Qa1 p i k).length≤5*k
 |0=>by simp [Qa1]
 |k+1=>by
  rw [Qf1,List.length_append];have:=Qkm p i k;have:=Qeq ((Qch p k).getD i v0) ((p.as_.getD k ac0).mv.getD i mv0) (begT p k) (p.as_.getD k ac0).ln;unfold pthA;omega
theorem Zn5 (l:List Sg):(((l.map sgV).flatMap PV.cells).all PV.okCell)=true:=by
 rw [List.all_flatMap,List.all_map,List.all_eq_true];intro _ _;rfl
theorem Q5x (l:List Sg):((l.map sgV).all fun e=>e.cells.length==6&&e.cells.all PV.okCell)=true:=by
 rw [List.all_map,List.all_eq_true];intro _ _;rfl
theorem rg5:List.range 0=[]∧List.range 1=[0]∧List.range 2=[0,1]∧List.range 3=[0,1,2]∧List.range 4=[0,1,2,3]∧List.range 5=[0,1,2,3,4]:=⟨rfl,rfl,rfl,rfl,rfl,rfl⟩
def bxs (L:Nat→List Sg) (n:Nat):List (Nat×Box):=(List.range n).map fun i=>(11+i,{els:=(L i).map sgV,esz:=6,ety:=91,fro:=0,live:=true,arr:=true})
def bsl (L:Nat→List Sg) (n:Nat):List PV:=(List.range n).map fun i=> .bs (11+i) 6 0 (L i).length
def idn (n j m:Nat):List (Nat×Nat):=(List.range n).map fun i=>(11+i,if i=j then m else 11+i)
theorem Q5y (p:Pg) (j k:Nat):((Qa1 p j k).length+(pthA p j k).length≤5*k+5)∧Qa1 p j (k+1)=Qa1 p j k++pthA p j k∧(Qa1 p j (k+1)).length=(Qa1 p j k).length+(pthA p j k).length:=by
 have hpl:=Qkm p j k;have hpl2:=Qeq ((Qch p k).getD j v0) ((p.as_.getD k ac0).mv.getD j mv0) (begT p k) (p.as_.getD k ac0).ln;have hps:=Qf1 p j k;refine⟨by unfold pthA;omega,hps,by rw [hps,List.length_append]⟩
set_option maxRecDepth 100000 in
set_option maxHeartbeats 80000000 in
theorem Zu2 (p:Pg) (hp:okP p) (v:Qbk p=true) (h5:p.ns.length≤5):Qaf Tryz.prog 51 [pgV p] (.slc ((List.range p.ns.length).map fun i=>pV (Qa1 p i p.as_.length))):=by
 have hpa:=(Qbx v).2.1;have hcr:=(Qbx v).1;obtain⟨h1,hhl⟩:1≤p.ns.length∧p.hs.length=p.ns.length:=by
  unfold Qor at hcr;simp only [Bool.and_eq_true,decide_eq_true_eq]at hcr;omega
 have hne:p.hs≠ []:=by intro h;rw [h]at hhl;simp at hhl;omega
 have mk1:(((24:Nat):Int)*(p.ns.length:Int)≤281474976710656)=True:=eq_true (by omega);have hfm: ∀k,k<p.as_.length→(Qch p k).length=p.ns.length:=fun k hk=>by
  unfold Qch;by_cases h:k=0
  ·rw [if_pos h];exact hhl
  ·rw [if_neg h,List.length_map,((Qbx v).2.2.1 (p.as_.getD (k-1) ac0) (by rw [List.getD_eq_getElem?_getD,List.getElem?_eq_getElem (by omega)];exact List.getElem_mem _)).2]
 have hl: ∀i k,((Qa1 p i k).map sgV).length=(Qa1 p i k).length:=fun i k=>List.length_map ..;have htk: ∀i,((Qa1 p i p.as_.length).map sgV).take (Qa1 p i p.as_.length).length=(Qa1 p i p.as_.length).map sgV:=fun i=>List.take_of_length_le (by simp);obtain hn|hn|hn|hn|hn:p.ns.length=1∨p.ns.length=2∨p.ns.length=3∨p.ns.length=4∨p.ns.length=5:=by omega
 all_goals (
  unfold pgV;simp only [hn,Int.cast_ofNat_Int,Int.natCast_one,rg5,List.map_cons,List.map_nil]at mk1 ⊢;refine Qab (tb:=[]) 44 [.tmp 2] [0,1,2,3,4,5,6,7,8,14,15,16,17,24,25,26] mixed Tryz.func51 rfl (by kernel_rfl) (by kernel_rfl) (by kernel_rfl) (by kernel_rfl) ?_;repeat (first|(simp -implicitDefEqProofs only [go_sem,Nat.reduceAdd,Nat.reduceMul,Nat.reduceEqDiff,Nat.reduceLT,Nat.reduceLeDiff,reduceCtorEq,Int.reduceLE,Int.reduceToNat,Int.reduceMul,hn,decide_true,List.length_map,List.replicate,Int.cast_ofNat_Int]))
  refine Qar mixed (fun k:{k:Nat // k≤p.as_.length}=>St.of [(1,.bp 0 3 0 0),(3,.bp 104 1 0 0),(4,.int .i64 (begT p k.1)),(14,.slc (p.as_.map acV)),(15,.int .i64 (p.as_.length:Int)),(16,.int .i64 (k.1:Int))] ([(0,{els:=[.agg [.slc (p.ns.map PV.str),.slc (p.hs.map v3PV),.slc (p.as_.map acV)]],esz:=3,ety:=26,fro:=0,live:=true,arr:=false}),(104,{els:=[.bs 103 1 0 p.ns.length],esz:=1,ety:=66,fro:=0,live:=true,arr:=false}),(103,{els:=bsl (fun i=>Qa1 p i k.1) p.ns.length,esz:=1,ety:=60,fro:=0,live:=true,arr:=false})]++bxs (fun i=>Qa1 p i k.1) p.ns.length)) (fun k=>p.as_.length-k.1) ⟨0,Nat.zero_le _⟩ ?_ ?_
  ·refine(Zlr 103 rfl (by simp)).trans ?_;try refine(Qj9 103 0 11 6 91 rfl rfl rfl (by simp [PV.cells]) rfl rfl (by decide)).trans ?_
   try refine(Qj9 103 1 12 6 91 rfl rfl rfl (by simp [PV.cells]) rfl rfl (by decide)).trans ?_
   try refine(Qj9 103 2 13 6 91 rfl rfl rfl (by simp [PV.cells]) rfl rfl (by decide)).trans ?_
   try refine(Qj9 103 3 14 6 91 rfl rfl rfl (by simp [PV.cells]) rfl rfl (by decide)).trans ?_
   try refine(Qj9 103 4 15 6 91 rfl rfl rfl (by simp [PV.cells]) rfl rfl (by decide)).trans ?_
   refine Zbx (θ:=[(0,0),(104,104),(103,103)]++idn p.ns.length 9 0) (by rw [hn];rfl) ?_ ?_
   ·simp [Qac,lkp,ren1,ren0,Qai,Q5k]
   ·skip
    simp only [hn,bxs,bsl,rg5,List.map_cons,List.map_nil,Nat.reduceAdd,List.cons_append,List.nil_append,Nat.reduceLT,Nat.lt_irrefl,Nat.lt_succ_self,Nat.not_lt_zero,Nat.zero_lt_one,if_true,if_false];refine⟨.inl ⟨rfl,rfl,rfl,rfl,rfl,.inr ⟨rfl,_,_,rfl,rfl,rfl,rfl⟩⟩,.inl ⟨rfl,rfl,rfl,rfl,rfl,.inr ⟨rfl,_,_,rfl,rfl,rfl,rfl⟩⟩,.inr ⟨rfl,rfl,rfl,rfl,rfl,rfl,rfl,rfl⟩,?_⟩;repeat' (first|exact trivial|refine⟨.inl ⟨rfl,rfl,rfl,rfl,rfl,.inl ⟨rfl,rfl⟩⟩,?_⟩)
  ·rintro⟨k,hk⟩;simp only [hn,bxs,bsl,rg5,List.map_cons,List.map_nil,Nat.reduceAdd,List.cons_append,List.nil_append,Nat.reduceLT,Nat.lt_irrefl,Nat.lt_succ_self,Nat.not_lt_zero,Nat.zero_lt_one,if_true,if_false];by_cases hA:k<p.as_.length
   case neg=>
    have hA':=lt_F hA;obtain rfl:p.as_.length=k:=by omega
    unfold pV;repeat (first|(simp -implicitDefEqProofs only [go_sem,Nat.reduceAdd,Nat.reduceMul,Nat.reduceEqDiff,Nat.reduceLT,Nat.reduceLeDiff,reduceCtorEq,hA',hl,htk,Nat.le_refl,decide_true]))
   have hA':=lt_T hA;have n0:=nn_T k;have ga:=Qhz hA;have hwk:=wr_1 (n:=k) (by omega);have b0:=Qdx v (k:=k) (by omega);have b1:=Qdx v (k:=k+1) (by omega);have hw:IntKind.i64.wrap (begT p k+(p.as_.getD k ac0).ln)=begT p (k+1):=by rw [Qez hA]at b1 ⊢;exact Qag (by omega) (by omega)
   have hpt:=Q59 p k (begT p k);have hml:=(Qbx v).2.2.1 (p.as_.getD k ac0) (by rw [List.getD_eq_getElem?_getD,List.getElem?_eq_getElem hA];exact List.getElem_mem _);have hf:=hfm k hA;have hY:=Qy7 p k (begT p k) hA hne hp.h (fun i=>(hp.m i).1) hp.a (by omega);have hlO:=Qnj (Qch p k) (p.as_.getD k ac0).mv (begT p k) (p.as_.getD k ac0).ln;have hgO: ∀j,j<p.ns.length→(Qlx (Qch p k) (p.as_.getD k ac0).mv (begT p k) (p.as_.getD k ac0).ln)[j]? =some [pV (pthA p j k),.int .i64 (mvE ((Qch p k).getD j v0) ((p.as_.getD k ac0).mv.getD j mv0) (begT p k) (p.as_.getD k ac0).ln)]:=fun j h=>Qnk _ _ _ _ (by omega);rw [hf]at hlO;unfold pgV at hpt hY;simp only [PV.cells]at hpt hY;repeat (first|(simp -implicitDefEqProofs only [go_sem,Nat.reduceAdd,Nat.reduceMul,Nat.reduceEqDiff,Nat.reduceLT,Nat.reduceLeDiff,reduceCtorEq,hA',n0,ga,Int.toNat_natCast])|((with_reducible refine Qaa hpt ?_ ?_ ?_);rfl;rfl))
   generalize Qlx (Qch p k) (p.as_.getD k ac0).mv (begT p k) (p.as_.getD k ac0).ln=OO at*;refine Q0a mixed hY rfl rfl _ rfl ([(1000000,104),(1000001,103),(1000002,600),(1000003,0),(1000004,503)]++idn p.ns.length 9 0) [1000000,1000001,1000002,1000003,1000004] rfl
    [(1,.bp 1000003 3 0 0),(3,.bp 1000000 1 0 0),(4,.int .i64 (begT p k)),(6,.bp 1000004 3 0 0),(7,.bp 1000002 1 0 0),(14,.slc (p.as_.map acV)),(15,.int .i64 (p.as_.length:Int)),(16,.int .i64 (k:Int))]
    (fun j:Nat=>[(1000000,{els:=[.bs 1000001 1 0 p.ns.length],esz:=1,ety:=66,fro:=0,live:=true,arr:=false}),(1000001,{els:=bsl (fun i=>if i<j then Qa1 p i (k+1)else Qa1 p i k) p.ns.length,esz:=1,ety:=60,fro:=0,live:=true,arr:=false}),(1000002,{els:=[.int .i64 (j:Int)],esz:=1,ety:=3,fro:=0,live:=true,arr:=false}),(1000003,{els:=[.agg [.slc (p.ns.map PV.str),.slc (p.hs.map v3PV),.slc (p.as_.map acV)]],esz:=3,ety:=26,fro:=0,live:=true,arr:=false}),(1000004,{els:=[.agg [.str (p.as_.getD k ac0).nm,.int .i64 (p.as_.getD k ac0).ln,.slc ((p.as_.getD k ac0).mv.map mvV)]],esz:=3,ety:=76,fro:=0,live:=true,arr:=false})]++bxs (fun i=>if i<j then Qa1 p i (k+1)else Qa1 p i k) p.ns.length) (by rw [hn];rfl) (by rw [hn];rfl) ?_ ?_ ?_ p.ns.length .normal (fun h=>by omega) (fun j _ _=>by simp [lkp]) ?_ rfl ?_
    ([(0,1000003),(104,1000000),(103,1000001),(503,1000004)]++idn p.ns.length 9 0)
    [(1,.bp 0 3 0 0),(3,.bp 104 1 0 0),(4,.int .i64 (begT p k)),(6,.bp 503 3 0 0),(14,.slc (p.as_.map acV)),(15,.int .i64 (p.as_.length:Int)),(16,.int .i64 (k:Int))]
    ([(0,{els:=[.agg [.slc (p.ns.map PV.str),.slc (p.hs.map v3PV),.slc (p.as_.map acV)]],esz:=3,ety:=26,fro:=0,live:=true,arr:=false}),(104,{els:=[.bs 103 1 0 p.ns.length],esz:=1,ety:=66,fro:=0,live:=true,arr:=false}),(103,{els:=bsl (fun i=>Qa1 p i (k+1)) p.ns.length,esz:=1,ety:=60,fro:=0,live:=true,arr:=false}),(503,{els:=[.agg [.str (p.as_.getD k ac0).nm,.int .i64 (p.as_.getD k ac0).ln,.slc ((p.as_.getD k ac0).mv.map mvV)]],esz:=3,ety:=76,fro:=0,live:=true,arr:=false})]++bxs (fun i=>Qa1 p i (k+1)) p.ns.length) (by rw [hn];rfl) (by rw [hn];rfl) ?_ ?_ (fun _=> ?_) (fun h=>by omega)
   ·simp [Qac,lkp,ren1,ren0,Qai]
   ·skip
    simp only [hn,bxs,bsl,rg5,List.map_cons,List.map_nil,Nat.reduceAdd,List.cons_append,List.nil_append,Nat.reduceLT,Nat.lt_irrefl,Nat.lt_succ_self,Nat.not_lt_zero,Nat.zero_lt_one,if_true,if_false];refine⟨.inl ⟨rfl,rfl,rfl,rfl,rfl,.inr ⟨rfl,_,_,rfl,rfl,rfl,rfl⟩⟩,.inr ⟨rfl,rfl,rfl,rfl,rfl,rfl,rfl,rfl⟩,.inl ⟨rfl,rfl,rfl,rfl,rfl,.inr ⟨rfl,_,_,rfl,rfl,rfl,rfl⟩⟩,.inl ⟨rfl,rfl,rfl,rfl,rfl,.inr ⟨rfl,_,_,rfl,rfl,rfl,rfl⟩⟩,.inl ⟨rfl,rfl,rfl,rfl,rfl,.inr ⟨rfl,_,_,rfl,rfl,rfl,rfl⟩⟩,?_⟩;repeat' (first|exact trivial|refine⟨.inl ⟨rfl,rfl,rfl,rfl,rfl,.inl ⟨rfl,rfl⟩⟩,?_⟩)
   ·simp [Qac,lkp,ren1,ren0,Qai,Qj7]
   ·intro j args h;rw [hgO j (by rw [←hlO];exact(List.getElem?_eq_some_iff.1 h).1)]at h;cases h;rfl
   ·rintro j args hja hjs;have hj:j<p.ns.length:=by rw [←hlO];exact(List.getElem?_eq_some_iff.1 hja).1
    rw [hgO j hj]at hja;cases hja;have hwj:=wr_1 (n:=j) (by omega);obtain⟨q1,q2,q3⟩:=Q5y p j k;have hok:=Zn5 (Qa1 p j k);have hok2:=Q5x (pthA p j k);have hl1:((pthA p j k).map sgV).length=(pthA p j k).length:=List.length_map ..;have k1:(((Qa1 p j k).length+(pthA p j k).length)*96≤140737488355328)=True:=eq_true (by omega);have k2:((Qa1 p j k).length+(pthA p j k).length≤maxLen)=True:=eq_true (by unfold maxLen;omega);have jb0:=nn_T j;have jb1:((j:Int)<(p.ns.length:Int))=True:=lt_T hj;rw [hn]at jb1 hj;unfold pV;obtain⟨J,hJ⟩: ∃J,J=j:=⟨j,rfl⟩;obtain rfl|rfl|rfl|rfl|rfl:j=0∨j=1∨j=2∨j=3∨j=4:=by omega
    all_goals (try (exfalso;omega))
    all_goals (
     simp only [hn,bxs,bsl,rg5,List.map_cons,List.map_nil,Nat.reduceAdd,List.cons_append,List.nil_append,Nat.reduceLT,Nat.lt_irrefl,Nat.lt_succ_self,Nat.not_lt_zero,Nat.zero_lt_one,if_true,if_false];repeat (first|(simp -implicitDefEqProofs only [go_sem,Nat.reduceAdd,Nat.reduceMul,Nat.reduceEqDiff,Nat.reduceLT,Nat.reduceLeDiff,reduceCtorEq,pvars,List.toList_toArray]))
     refine⟨by simp [lkp],?_⟩;repeat (first|(simp -implicitDefEqProofs only [go_sem,Nat.reduceAdd,Nat.reduceMul,Nat.reduceEqDiff,Nat.reduceLT,Nat.reduceLeDiff,reduceCtorEq,hwj,jb0,jb1,hl,hl1,hok,hok2,k1,k2,decide_true,Bool.and_self,Int.toNat_natCast])|(with_reducible refine And.intro (Qae _ _ (by kernel_rfl)) ?_))
     refine⟨by decide,?_⟩;simp only [hn,bxs,bsl,rg5,List.map_cons,List.map_nil,Nat.reduceAdd,List.cons_append,List.nil_append,Nat.reduceLT,Nat.lt_irrefl,Nat.lt_succ_self,Nat.not_lt_zero,Nat.zero_lt_one,if_true,if_false];simp only [q2,List.map_append,List.length_append];refine Zbx (θ:=[(1000000,1000000),(1000001,1000001),(1000002,1000002),(1000003,1000003),(1000004,1000004)]++idn p.ns.length J 907) (by rw [hn,hJ];rfl) ?_ ?_
     ·simp [Qac,lkp,ren1,ren0,Qai]
     ·rw [hn,hJ];refine⟨.inl ⟨rfl,rfl,rfl,rfl,rfl,.inr ⟨rfl,_,_,rfl,rfl,rfl,rfl⟩⟩,.inr ⟨rfl,rfl,rfl,rfl,rfl,rfl,rfl,rfl⟩,.inl ⟨rfl,rfl,rfl,rfl,rfl,.inr ⟨rfl,_,_,rfl,rfl,rfl,rfl⟩⟩,.inl ⟨rfl,rfl,rfl,rfl,rfl,.inr ⟨rfl,_,_,rfl,rfl,rfl,rfl⟩⟩,.inl ⟨rfl,rfl,rfl,rfl,rfl,.inr ⟨rfl,_,_,rfl,rfl,rfl,rfl⟩⟩,?_⟩;repeat' (first|exact trivial|refine⟨.inl ⟨rfl,rfl,rfl,rfl,rfl,.inl ⟨rfl,rfl⟩⟩,?_⟩)
     )
   ·simp [Qac,lkp,ren1,ren0,Qai]
   ·have hm:min OO.length (p.ns.length+1)=p.ns.length:=by omega
    rw [hm];simp only [hn,bxs,bsl,rg5,List.map_cons,List.map_nil,Nat.reduceAdd,List.cons_append,List.nil_append,Nat.reduceLT,Nat.lt_irrefl,Nat.lt_succ_self,Nat.not_lt_zero,Nat.zero_lt_one,if_true,if_false];refine⟨.inl ⟨rfl,rfl,rfl,rfl,rfl,.inr ⟨rfl,_,_,rfl,rfl,rfl,rfl⟩⟩,.inl ⟨rfl,rfl,rfl,rfl,rfl,.inr ⟨rfl,_,_,rfl,rfl,rfl,rfl⟩⟩,.inr ⟨rfl,rfl,rfl,rfl,rfl,rfl,rfl,rfl⟩,.inl ⟨rfl,rfl,rfl,rfl,rfl,.inr ⟨rfl,_,_,rfl,rfl,rfl,rfl⟩⟩,?_⟩;repeat' (first|exact trivial|refine⟨.inl ⟨rfl,rfl,rfl,rfl,rfl,.inl ⟨rfl,rfl⟩⟩,?_⟩)
   ·skip
    simp only [hn,bxs,bsl,rg5,List.map_cons,List.map_nil,Nat.reduceAdd,List.cons_append,List.nil_append,Nat.reduceLT,Nat.lt_irrefl,Nat.lt_succ_self,Nat.not_lt_zero,Nat.zero_lt_one,if_true,if_false];repeat (first|(simp -implicitDefEqProofs only [go_sem,Nat.reduceAdd,Nat.reduceMul,Nat.reduceEqDiff,Nat.reduceLT,Nat.reduceLeDiff,reduceCtorEq,hw,hwk]))
    refine⟨⟨k+1,hA⟩,by simp only;omega,?_⟩;refine Zbx (θ:=[(0,0),(104,104),(103,103)]++idn p.ns.length 9 0) (by rw [hn];rfl) ?_ ?_
    ·simp [Qac,lkp,ren1,ren0,Qai]
    ·skip
     simp only [hn,bxs,bsl,rg5,List.map_cons,List.map_nil,Nat.reduceAdd,List.cons_append,List.nil_append,Nat.reduceLT,Nat.lt_irrefl,Nat.lt_succ_self,Nat.not_lt_zero,Nat.zero_lt_one,if_true,if_false];refine⟨.inl ⟨rfl,rfl,rfl,rfl,rfl,.inr ⟨rfl,_,_,rfl,rfl,rfl,rfl⟩⟩,.inl ⟨rfl,rfl,rfl,rfl,rfl,.inr ⟨rfl,_,_,rfl,rfl,rfl,rfl⟩⟩,.inr ⟨rfl,rfl,rfl,rfl,rfl,rfl,rfl,rfl⟩,?_⟩;repeat' (first|exact trivial|refine⟨.inl ⟨rfl,rfl,rfl,rfl,rfl,.inl ⟨rfl,rfl⟩⟩,?_⟩)
  skip)
end Go.Proofs.YtjlkapdmgjocdaaGreat

namespace Go.Proofs.YtjlkapdmgjocdaaGreat
open Go.Vl Go.RowKit Go.Dg
def allL (p:Pg):List PV:=(List.range p.ns.length).map fun i=>pV (Qa1 p i p.as_.length)
theorem Zd2 (p:Pg):(allL p).length=p.ns.length:=by simp [allL]
theorem Zd3 {p:Pg} {i:Nat} (h:i<p.ns.length):(allL p)[i]? =some (pV (Qa1 p i p.as_.length)):=by simp [allL,h]
theorem Zyd (p:Pg) (hf:FewP p) (v:Qbk p=true):Qaf Tryz.prog 51 [pgV p] (.slc (allL p)):=Zu2 p (Qnd hf) v hf.1
def Qgl (p:Pg) (i:Int):Int:=if Qbk p=true then(if 0≤i∧i<(p.ns.length:Int)then(if p.as_.length=0 then 9 else 0)else 3)else 2
def Q0v (p:Pg) (i:Int):List Sg:=if Qgl p i=0 then Qa1 p i.toNat p.as_.length else []
theorem Q5z (p:Pg) (hf:FewP p) (i:Int):Qaf Tryz.prog 30 [pgV p,.int .i64 i] (.tup [pV (Q0v p i),.int .i64 (Qgl p i)]):=by
 have ok:=Qnd hf;have hV:=Qkn p ok;unfold Q0v;cases e:Qbk p with
 |false=>
  have e2:Qgl p i=2:=by unfold Qgl;rw [e,if_neg Bool.false_ne_true]
  rw [e2,if_neg (by decide)];rw [e]at hV;unfold pV;unfold pgV at hV ⊢;refine Qab (tb:=[]) 30 [.tmp 4,.tmp 5] [0,1,2,4,5,6,10,20] mixed Tryz.func30 rfl (by kernel_rfl) (by kernel_rfl) (by kernel_rfl) (by kernel_rfl) ?_;repeat (first|(simp -implicitDefEqProofs only [go_sem,Nat.reduceAdd,Nat.reduceMul,Nat.reduceEqDiff,Nat.reduceLT,Nat.reduceLeDiff,reduceCtorEq,Bool.not_false])|((with_reducible refine Qaa hV ?_ ?_ ?_);rfl;rfl))
 |true=>
 rw [e]at hV;have hA:=Zyd p hf e;by_cases h1:0≤i
 case neg=>
  have h1':(i<0)=True:=eq_true (by omega);have e2:Qgl p i=3:=by unfold Qgl;rw [e,if_pos rfl,if_neg (by omega)]
  rw [e2,if_neg (by decide)];unfold pV;unfold pgV at hV ⊢;refine Qab (tb:=[]) 30 [.tmp 4,.tmp 5] [0,1,2,4,5,6,10,20] mixed Tryz.func30 rfl (by kernel_rfl) (by kernel_rfl) (by kernel_rfl) (by kernel_rfl) ?_;repeat (first|(simp -implicitDefEqProofs only [go_sem,Nat.reduceAdd,Nat.reduceMul,Nat.reduceEqDiff,Nat.reduceLT,Nat.reduceLeDiff,reduceCtorEq,Bool.not_true,h1',decide_true])|((with_reducible refine Qaa hV ?_ ?_ ?_);rfl;rfl))
 have h1':(i<0)=False:=eq_false (by omega);by_cases h2:i<(p.ns.length:Int)
 case neg=>
  have h2':((p.ns.length:Int)≤i)=True:=eq_true (by omega);have e2:Qgl p i=3:=by unfold Qgl;rw [e,if_pos rfl,if_neg (by omega)]
  rw [e2,if_neg (by decide)];unfold pV;unfold pgV at hV ⊢;refine Qab (tb:=[]) 30 [.tmp 4,.tmp 5] [0,1,2,4,5,6,10,20] mixed Tryz.func30 rfl (by kernel_rfl) (by kernel_rfl) (by kernel_rfl) (by kernel_rfl) ?_;repeat (first|(simp -implicitDefEqProofs only [go_sem,Nat.reduceAdd,Nat.reduceMul,Nat.reduceEqDiff,Nat.reduceLT,Nat.reduceLeDiff,reduceCtorEq,Bool.not_true,h1',h2',decide_true,decide_false,List.length_map])|((with_reducible refine Qaa hV ?_ ?_ ?_);rfl;rfl))
 have h2':((p.ns.length:Int)≤i)=False:=eq_false (by omega);by_cases h3:p.as_.length=0
 ·have h3':((p.as_.length:Int)==0)=true:=by rw [h3];rfl
  have e2:Qgl p i=9:=by unfold Qgl;rw [e,if_pos rfl,if_pos ⟨h1,h2⟩,if_pos h3]
  rw [e2,if_neg (by decide)];unfold pV;unfold pgV at hV ⊢;refine Qab (tb:=[]) 30 [.tmp 4,.tmp 5] [0,1,2,4,5,6,10,20] mixed Tryz.func30 rfl (by kernel_rfl) (by kernel_rfl) (by kernel_rfl) (by kernel_rfl) ?_;repeat (first|(simp -implicitDefEqProofs only [go_sem,Nat.reduceAdd,Nat.reduceMul,Nat.reduceEqDiff,Nat.reduceLT,Nat.reduceLeDiff,reduceCtorEq,Bool.not_true,h1',h2',h3',decide_true,decide_false,List.length_map])|((with_reducible refine Qaa hV ?_ ?_ ?_);rfl;rfl))
 have h3':((p.as_.length:Int)==0)=false:=beq_eq_false_iff_ne.2 (by omega);have e2:Qgl p i=0:=by unfold Qgl;rw [e,if_pos rfl,if_pos ⟨h1,h2⟩,if_neg h3]
 rw [e2,if_pos rfl];obtain⟨j,rfl⟩: ∃j:Nat,i=(j:Int):=⟨i.toNat,by omega⟩;have nj:=nn_T j;have hg:=Zd3 (p:=p) (i:=j) (by omega);have hll:=Zd2 p;have hlt:((j:Int)<(p.ns.length:Int))=True:=eq_true h2;unfold pV at hg ⊢;generalize allL p=AL at*;unfold pgV at hV hA ⊢;simp only [Int.toNat_natCast];refine Qab (tb:=[]) 30 [.tmp 4,.tmp 5] [0,1,2,4,5,6,10,20] mixed Tryz.func30 rfl (by kernel_rfl) (by kernel_rfl) (by kernel_rfl) (by kernel_rfl) ?_;repeat (first|(simp -implicitDefEqProofs only [go_sem,Nat.reduceAdd,Nat.reduceMul,Nat.reduceEqDiff,Nat.reduceLT,Nat.reduceLeDiff,reduceCtorEq,Bool.not_true,h1',h2',h3',nj,hg,decide_true,decide_false,Int.toNat_natCast,List.length_map])|((with_reducible refine Qaa hV ?_ ?_ ?_);rfl;rfl)|((with_reducible refine Qaa hA ?_ ?_ ?_);rfl;rfl))
end Go.Proofs.YtjlkapdmgjocdaaGreat

namespace Go.Dg
def digs (B n:Nat):List Nat:=if h:n=0∨B<2 then []else n%B::digs B (n/B)
termination_by n
decreasing_by
 simp only [not_or,Nat.not_lt]at h;exact Nat.div_lt_self (Nat.pos_of_ne_zero h.1) h.2
def val (B:Nat):List Nat→Nat
 | []=>0
 |d::l=>d+B*val B l
section
variable {B:Nat}
theorem Qbi:digs B 0=[]:=by unfold digs;simp
theorem Qgp (hB:2≤B) {n:Nat} (hn:n≠0):digs B n=n%B::digs B (n/B):=by
 conv=>lhs;unfold digs
 rw [dif_neg];simp only [not_or,Nat.not_lt];exact⟨hn,hB⟩
theorem Qyg (hB:2≤B) (n:Nat):val B (digs B n)=n:=by
 induction n using Nat.strongRecOn with
 |_ n ih=>
  by_cases hn:n=0
  ·subst hn;rw [Qbi];rfl
  ·rw [Qgp hB hn];simp only [val];rw [ih _ (Nat.div_lt_self (Nat.pos_of_ne_zero hn) hB)];exact Nat.mod_add_div n B
theorem Qqn (hB:2≤B) (n k:Nat):(digs B n)[k]? =if n/B^k=0 then none else some (n/B^k%B):=by
 induction k generalizing n with
 |zero=>
  by_cases hn:n=0
  ·subst hn;simp [Qbi]
  ·rw [Qgp hB hn];simp [hn]
 |succ k ih=>
  by_cases hn:n=0
  ·subst hn;simp [Qbi]
  ·rw [Qgp hB hn,List.getElem?_cons_succ,ih];have:n/B/B^k=n/B^(k+1):=by rw [Nat.div_div_eq_div_mul,Nat.pow_succ,Nat.mul_comm]
   rw [this]
theorem Qda (hB:2≤B) (n k:Nat):k<(digs B n).length↔n/B^k≠0:=by
 have:=Qqn hB n k;constructor
 ·intro h hz;rw [if_pos hz,List.getElem?_eq_none_iff]at this;omega
 ·intro h;rw [if_neg h]at this;exact(List.getElem?_eq_some_iff.1 this).1
theorem Qaz (hB:2≤B) (n k:Nat):(digs B n).length≤k↔n<B^k:=by
 have h:=Qda hB n k;have hp:0<B^k:=Nat.pow_pos (by omega);rw [←Nat.not_lt,h,Decidable.not_not,Nat.div_eq_zero_iff];omega
theorem Qbe (hB:2≤B) (n:Nat):n<B^(digs B n).length:=(Qaz hB n _).1 (Nat.le_refl _)
theorem Qa0 (hB:2≤B) {n k:Nat} (h:k<(digs B n).length):(digs B n)[k]? =some (n/B^k%B):=by
 rw [Qqn hB,if_neg ((Qda hB n k).1 h)]
theorem Qvg (hB:2≤B) {n d:Nat} (h:d∈digs B n):d<B:=by
 obtain⟨k,hk⟩:=List.mem_iff_getElem?.1 h;rw [Qqn hB]at hk;split at hk
 ·cases hk
 ·cases hk;exact Nat.mod_lt _ (by omega)
theorem Qck (hB:2≤B) {n k:Nat} (h:(digs B n).length≤k):n/B^k=0:=by
 have:=(Qaz hB n k).1 h;exact Nat.div_eq_of_lt this
theorem Qbo (hB:2≤B) {n:Nat}:digs B n=[]↔n=0:=by
 constructor
 ·intro h;have:=Qyg hB n;rw [h]at this;exact this.symm
 ·rintro rfl;exact Qbi
def lows (B n i:Nat):List Nat:=(List.range i).map fun k=>n/B^k%B
theorem Qak (n i:Nat):(lows B n i).length=i:=by simp [lows]
theorem Qbv (n i k:Nat) (h:k<i):(lows B n i)[k]? =some (n/B^k%B):=by simp [lows,h]
theorem Qsx (n i:Nat):lows B n (i+1)=n%B::lows B (n/B) i:=by
 simp only [lows,List.range_succ_eq_map,List.map_cons,Nat.pow_zero,Nat.div_one,List.map_map];congr 1;apply List.map_congr_left;intro k _;simp only [Function.comp,Nat.succ_eq_add_one];rw [Nat.div_div_eq_div_mul,Nat.pow_succ,Nat.mul_comm]
theorem Zc8 (hB:0<B) (n i:Nat):val B (lows B n i)=n%B^i:=by
 induction i generalizing n with
 |zero=>simp [lows,val,Nat.mod_one]
 |succ i ih=>
  rw [Qsx];simp only [val];rw [ih,Nat.pow_succ,Nat.mul_comm (B^i) B,Nat.mod_mul]
theorem Qiw (hB:2≤B) (n:Nat):lows B n (digs B n).length=digs B n:=by
 apply List.ext_getElem?;intro k;by_cases hk:k<(digs B n).length
 ·rw [Qbv _ _ _ hk,Qa0 hB hk]
 ·rw [List.getElem?_eq_none (by rw [Qak];omega),List.getElem?_eq_none (by omega)]
def Qfk (l:List Nat):List Nat:=(l.reverse.dropWhile (· ==0)).reverse
theorem Qev (l:List Nat):Qfk (l++[0])=Qfk l:=by simp [Qfk]
theorem Qhe (l:List Nat) {d:Nat} (h:d≠0):Qfk (l++[d])=l++[d]:=by simp [Qfk,h]
theorem Q39:Qfk []=[]:=rfl
theorem Qpg (l m:List Nat):val B (l++m)=val B l+B^l.length*val B m:=by
 induction l with
 |nil=>simp [val]
 |cons d l ih=>
  simp only [List.cons_append,val,ih,List.length_cons,Nat.pow_succ];rw [Nat.mul_add,Nat.add_assoc,←Nat.mul_assoc,Nat.mul_comm B (B^l.length)]
theorem Zub (hB:0<B) {l:List Nat} (h: ∀d∈l,d<B):val B l<B^l.length:=by
 induction l with
 |nil=>simp [val]
 |cons d l ih=>
  have h1:=ih fun x hx=>h x (by simp [hx]);have h2:=h d (by simp);simp only [val,List.length_cons,Nat.pow_succ];have:B*val B l+B≤B*B^l.length:=by rw [←Nat.mul_succ];exact Nat.mul_le_mul_left _ h1
  rw [Nat.mul_comm (B^l.length)];omega
theorem Zc9 (hB:2≤B) {l:List Nat} (h: ∀d∈l,d<B):lows B (val B l) l.length=l:=by
 induction l with
 |nil=>rfl
 |cons d l ih=>
  have h2:=h d (by simp);rw [List.length_cons,Qsx];simp only [val];rw [Nat.add_mul_mod_self_left,Nat.mod_eq_of_lt h2,Nat.add_mul_div_left _ _ (by omega),Nat.div_eq_of_lt h2,Nat.zero_add,ih fun x hx=>h x (by simp [hx])]
theorem Qqo (hB:2≤B) (l:List Nat) (h: ∀d∈l,d<B):Qfk l=digs B (val B l):=by
 have key: ∀n,∀l:List Nat,l.length=n→(∀d∈l,d<B)→Qfk l=digs B (val B l):=by
  intro n
  induction n with
  |zero=>intro l hl _;rw [List.length_eq_zero_iff.1 hl];simp [Q39,val,Qbi]
  |succ n ih=>
   intro l hl h;have hne:l≠ []:=by rintro rfl;simp at hl
   have hcut:=List.dropLast_concat_getLast hne;generalize l.dropLast=m at hcut;generalize l.getLast hne=d at hcut;subst hcut;have hm:m.length=n:=by simpa using hl
   have hmd: ∀x∈m,x<B:=fun x hx=>h x (by simp [hx]);by_cases hd:d=0
   ·subst hd;rw [Qev,ih m hm hmd,Qpg];simp [val]
   ·rw [Qhe m hd];have hlen:(digs B (val B (m++[d]))).length=(m++[d]).length:=by
     apply Nat.le_antisymm
     ·exact(Qaz hB _ _).2 (Zub (by omega) h)
     ·have:(m++[d]).length=m.length+1:=by simp
      rw [this];apply (Qda hB _ _).2;rw [Qpg];simp only [val,Nat.mul_zero,Nat.add_zero];rw [Nat.add_mul_div_left _ _ (Nat.pow_pos (by omega))];exact fun e=>hd (Nat.eq_zero_of_add_eq_zero_left e)
    have:=Qiw hB (val B (m++[d]));rw [hlen,Zc9 hB h]at this;exact this
 exact key l.length l rfl h
theorem Qb6 (hB:2≤B) (n i:Nat):Qfk (lows B n i)=digs B (n%B^i):=by
 rw [Qqo hB,Zc8 (by omega)];intro d hd;simp only [lows,List.mem_map]at hd;obtain⟨k,_,rfl⟩:=hd;exact Nat.mod_lt _ (by omega)
theorem Q0m {l:List Nat} (h: ∀d,l.getLast? =some d→d≠0):Qfk l=l:=by
 by_cases hne:l=[]
 ·subst hne;rfl
 ·have hcut:=List.dropLast_concat_getLast hne;have hl:l.getLast? =some (l.getLast hne):=List.getLast?_eq_some_getLast hne;have:=h _ hl;rw [←hcut];exact Qhe _ this
end
end Go.Dg

namespace Go.Proofs.YtjlkapdmgjocdaaGreat
open Go.Vl Go.RowKit Go.Dg
theorem wrapn {n:Nat} (h:n<9223372036854775808):IntKind.i64.wrap (n:Int)=n:=Qag (by omega) (by omega)
theorem Qtd {n:Nat} (h:n<9223372036854775808):IntKind.i64.wrap (((n+1:Nat):Int)-1)=(n:Int):=by
 rw [Qag (by omega) (by omega)];omega
theorem Qte:maxLen<9223372036854775808:=by simp [maxLen]
end Go.Proofs.YtjlkapdmgjocdaaGreat

namespace Go.Dg
section
variable {B:Nat}
def carry (B a b i:Nat):Nat:=(a%B^i+b%B^i)/B^i
theorem Qpi (a b:Nat):carry B a b 0=0:=by simp [carry,Nat.mod_one]
theorem Qym (hB:0<B) (a b i:Nat):carry B a b i≤1:=by
 have hp:0<B^i:=Nat.pow_pos hB;have h1:=Nat.mod_lt a hp;have h2:=Nat.mod_lt b hp;unfold carry;rw [Nat.div_le_iff_le_mul hp];omega
theorem Qyn (hB:0<B) (a b i:Nat):(a/B^i%B+b/B^i%B+carry B a b i)%B=(a+b)/B^i%B∧(a/B^i%B+b/B^i%B+carry B a b i)/B=carry B a b (i+1):=by
 have hp:0<B^i:=Nat.pow_pos hB;unfold carry;generalize hP:B^i=P at*;have e1:(a+b)/P=a/P+b/P+(a%P+b%P)/P:=by
  conv=>lhs;rw [←Nat.div_add_mod a P,←Nat.div_add_mod b P]
  have:P*(a/P)+a%P+(P*(b/P)+b%P)=(a%P+b%P)+P*(a/P+b/P):=by rw [Nat.mul_add];omega
  rw [this,Nat.add_mul_div_left _ _ hp];omega
 constructor
 ·rw [e1]
  conv=>rhs;rw [Nat.add_mod,Nat.add_mod (a/P)]
  conv=>lhs;rw [Nat.add_mod,Nat.add_mod (a/P%B)]
  simp
 ·have hP1:B^(i+1)=P*B:=by rw [Nat.pow_succ,hP]
  rw [hP1,Nat.mod_mul,Nat.mod_mul];have:a%P+P*(a/P%B)+(b%P+P*(b/P%B))=(a%P+b%P)+P*(a/P%B+b/P%B):=by rw [Nat.mul_add];omega
  rw [this,←Nat.div_div_eq_div_mul,Nat.add_mul_div_left _ _ hp];congr 1;omega
theorem Q4n (hB:2≤B) {n i:Nat} (h1:n<B^i) (h2: ∀j,j<i→n/B^j≠0):lows B n i=digs B n:=by
 have hl:(digs B n).length=i:=by
  apply Nat.le_antisymm ((Qaz hB n i).2 h1);rcases Nat.eq_zero_or_pos i with rfl|hi
  ·exact Nat.zero_le _
  ·have:=(Qda hB n (i-1)).2 (h2 (i-1) (by omega));omega
 rw [←hl,Qiw hB]
end
end Go.Dg

namespace Go.Proofs.YtjlkapdmgjocdaaGreat
open Go.Vl Go.RowKit Go.Dg
theorem Qhk {a b:Nat} (h:a+b<9223372036854775808):IntKind.i64.wrap ((a:Int)+(b:Int))=((a+b:Nat):Int):=by
 rw [Qag (by omega) (by omega)];omega
theorem Qan {a:Nat} (h:a+1<9223372036854775808):IntKind.i64.wrap ((a:Int)+1)=((a+1:Nat):Int):=by
 rw [Qag (by omega) (by omega)];omega
end Go.Proofs.YtjlkapdmgjocdaaGreat

namespace Go.Dg
section
variable {B:Nat}
def cmpN (a b:Nat):Int:=if a<b then -1 else if b<a then 1 else 0
theorem Zm7 {a b:Nat} (h:a<b):cmpN a b= -1:=by simp [cmpN,h]
theorem Zm8 {a b:Nat} (h:b<a):cmpN a b=1:=by simp [cmpN,h];omega
theorem Zm9 (a:Nat):cmpN a a=0:=by simp [cmpN]
theorem Zly (hB:2≤B) {a b:Nat} (h:(digs B a).length<(digs B b).length):a<b:=by
 have h1:=Qbe hB a;have h2:=(Qda hB b _).1 h;have h3:=Nat.div_eq_zero_iff (a:=b) (b:=B^(digs B a).length);have:0<B^(digs B a).length:=Nat.pow_pos (by omega);omega
theorem Qi1 (hB:0<B) (a i:Nat):a/B^i=B*(a/B^(i+1))+a/B^i%B:=by
 rw [Nat.pow_succ,←Nat.div_div_eq_div_mul];exact(Nat.div_add_mod _ _).symm
theorem Qs1 (hB:0<B) {a b i:Nat} (h:a/B^(i+1)=b/B^(i+1)) (hd:a/B^i%B<b/B^i%B):a<b:=by
 have h1:=Qi1 hB a i;have h2:=Qi1 hB b i;rw [h]at h1;apply Nat.lt_of_not_le;intro hle;have:=Nat.div_le_div_right (c:=B^i) hle;omega
theorem Q0o (hB:0<B) {a b i:Nat} (h:a/B^(i+1)=b/B^(i+1)) (hd:a/B^i%B=b/B^i%B):a/B^i=b/B^i:=by
 rw [Qi1 hB a i,Qi1 hB b i,h,hd]
def bor (B a b i:Nat):Nat:=if a%B^i<b%B^i then 1 else 0
theorem Qyi (a b:Nat):bor B a b 0=0:=by simp [bor,Nat.mod_one]
theorem Qyj (a b i:Nat):bor B a b i≤1:=by unfold bor;split<;>omega
theorem Q4l (hB:0<B) {a b:Nat} (h:b≤a) (i:Nat):(a-b)/B^i+b/B^i+bor B a b i=a/B^i:=by
 have hp:0<B^i:=Nat.pow_pos hB;unfold bor;generalize B^i=P at*;have ha:=Nat.div_add_mod a P;have hb:=Nat.div_add_mod b P;have hm1:=Nat.mod_lt a hp;have hm2:=Nat.mod_lt b hp;have hle:b/P≤a/P:=Nat.div_le_div_right h;generalize a/P=x at*;generalize b/P=y at*;generalize a%P=r at*;generalize b%P=s at*;obtain⟨z,rfl⟩:=Nat.exists_eq_add_of_le hle;rw [Nat.mul_add]at ha;split
 ·rename_i hlt;have hz:z≠0:=by rintro rfl;rw [Nat.mul_zero]at ha;omega
  obtain⟨z',rfl⟩:=Nat.exists_eq_succ_of_ne_zero hz;have e:a-b=(P+r-s)+P*z':=by rw [Nat.mul_succ]at ha;omega
  rw [e,Nat.add_mul_div_left _ _ hp,Nat.div_eq_of_lt (by omega)];omega
 ·rename_i hlt;have e:a-b=(r-s)+P*z:=by omega
  rw [e,Nat.add_mul_div_left _ _ hp,Nat.div_eq_of_lt (by omega)];omega
theorem Qyk (hB:2≤B) {a b:Nat} (h:b≤a) (i:Nat):
  (a-b)/B^i%B+b/B^i%B+bor B a b i=a/B^i%B+B*bor B a b (i+1):=by
 have hB0:0<B:=by omega
 have h1:=Q4l hB0 h i;have h2:=Q4l hB0 h (i+1);have e1:=Qi1 hB0 (a-b) i;have e2:=Qi1 hB0 b i;have e3:=Qi1 hB0 a i;have hm:=Nat.mul_add B ((a-b)/B^(i+1)+b/B^(i+1)) (bor B a b (i+1));have hm2:=Nat.mul_add B ((a-b)/B^(i+1)) (b/B^(i+1));rw [h2]at hm;omega
def mix (B V S n m:Nat):List Nat:=(List.range n).map fun j=>if j<m then V/B^j%B else S/B^j%B
theorem Qbp (V S n m:Nat):(mix B V S n m).length=n:=by simp [mix]
theorem Qdu (V S n m j:Nat) (h:j<n):(mix B V S n m)[j]? =some (if j<m then V/B^j%B else S/B^j%B):=by simp [mix,h]
theorem Qmy (hB:0<B) {V W m j:Nat} (h:V%B^m=W%B^m) (hj:j<m):V/B^j%B=W/B^j%B:=by
 have key: ∀n,n/B^j%B=(n%B^m)/B^j%B:=by
  intro n;have e:B^m=B^j*(B*B^(m-j-1)):=by
   rw [←Nat.mul_assoc,←Nat.pow_succ,←Nat.pow_add];congr 1;omega
  rw [e,Nat.mod_mul_right_div_self,Nat.mod_mul_right_mod]
 rw [key V,key W,h]
theorem Qew (hB:0<B) {V W S n m d:Nat} (hm:m<n) (h:V%B^m=W%B^m) (hd:W/B^m%B=d):(mix B V S n m).set m d=mix B W S n (m+1):=by
 apply List.ext_getElem?;intro j;rw [List.getElem?_set];by_cases hj:j<n
 ·rw [Qdu _ _ _ _ _ hj,Qdu _ _ _ _ _ hj,Qbp];by_cases e:m=j
  ·subst e;simp [hj,hd]
  ·simp only [e,if_false];by_cases hlt:j<m
   ·rw [if_pos hlt,if_pos (by omega),Qmy hB h hlt]
   ·rw [if_neg hlt,if_neg (by omega)]
 ·rw [List.getElem?_eq_none (by rw [Qbp];omega),List.getElem?_eq_none (by rw [Qbp];omega),Qbp];simp;omega
theorem Qgq {V S n m:Nat} (hB:0<B) (h:V/B^m=S/B^m):mix B V S n m=lows B V n:=by
 apply List.map_congr_left;intro j _;split
 ·rfl
 ·rename_i hj;obtain⟨k,rfl⟩:=Nat.exists_eq_add_of_le (Nat.le_of_not_lt hj);rw [Nat.pow_add,←Nat.div_div_eq_div_mul,←Nat.div_div_eq_div_mul,h]
theorem Ql6 (V S n:Nat):mix B V S n 0=lows B S n:=by simp [mix,lows]
def mulV (B S x i b k:Nat):Nat:=S+x*B^i*(b%B^k)
theorem Qs2 (S x i b:Nat):mulV B S x i b 0=S:=by simp [mulV,Nat.mod_one]
theorem Qs3 (S x i b k:Nat):mulV B S x i b (k+1)=mulV B S x i b k+x*(b/B^k%B)*B^(i+k):=by
 unfold mulV;rw [Nat.pow_succ,Nat.mod_mul,Nat.mul_add,Nat.pow_add];have:x*B^i*(B^k*(b/B^k%B))=x*(b/B^k%B)*(B^i*B^k):=by
  simp only [Nat.mul_assoc,Nat.mul_comm,Nat.mul_left_comm]
 rw [this];omega
def mulC (B S x i b k:Nat):Nat:=mulV B S x i b k/B^(i+k)-S/B^(i+k)
theorem Zna (S x i b k:Nat):S≤mulV B S x i b k:=Nat.le_add_right _ _
theorem Qqz (S x i b k:Nat):mulC B S x i b k+S/B^(i+k)=mulV B S x i b k/B^(i+k):=by
 have:=Nat.div_le_div_right (c:=B^(i+k)) (Zna (B:=B) S x i b k);unfold mulC;omega
theorem Qs4 (S x i b:Nat):mulC B S x i b 0=0:=by simp [mulC,Qs2]
theorem Qyl (hB:0<B) (S x i b k:Nat):
  (S/B^(i+k)%B+mulC B S x i b k+x*(b/B^k%B))%B=mulV B S x i b (k+1)/B^(i+k)%B∧
  (S/B^(i+k)%B+mulC B S x i b k+x*(b/B^k%B))/B=mulC B S x i b (k+1):=by
 have hp:0<B^(i+k):=Nat.pow_pos hB;have h1:=Qqz (B:=B) S x i b k;have e1:mulV B S x i b (k+1)/B^(i+k)=(S/B^(i+k)%B+mulC B S x i b k+x*(b/B^k%B))+B*(S/B^(i+k+1)):=by
  rw [Qs3,Nat.add_mul_div_right _ _ hp,←h1];have:=Qi1 hB S (i+k);omega
 constructor
 ·rw [e1,Nat.add_mul_mod_self_left]
 ·have h2:=Qqz (B:=B) S x i b (k+1);have e2:mulV B S x i b (k+1)/B^(i+(k+1))=mulV B S x i b (k+1)/B^(i+k)/B:=by
   rw [Nat.div_div_eq_div_mul,←Nat.pow_succ];rfl
  rw [e1,Nat.add_mul_div_left _ _ hB]at e2;have e3:S/B^(i+(k+1))=S/B^(i+k+1):=rfl;omega
theorem Zdd (S x i b k:Nat):mulV B S x i b k%B^(i+k)=mulV B S x i b (k+1)%B^(i+k):=by
 rw [Qs3,Nat.add_mul_mod_self_right]
theorem Q4m (a i b k:Nat) (hk:b<B^k):mulV B (a%B^i*b) (a/B^i%B) i b k=a%B^(i+1)*b:=by
 unfold mulV;rw [Nat.mod_eq_of_lt hk,Nat.pow_succ,Nat.mod_mul,Nat.add_mul];congr 1;rw [Nat.mul_comm (a/B^i%B)]
theorem Znb (hB:0<B) {S x i b k:Nat} (hx:x<B):mulC B S x i b k<B:=by
 induction k with
 |zero=>rw [Qs4];exact hB
 |succ k ih=>
  rw [←(Qyl hB S x i b k).2,Nat.div_lt_iff_lt_mul hB];have h1:S/B^(i+k)%B<B:=Nat.mod_lt _ hB;have h2:b/B^k%B<B:=Nat.mod_lt _ hB;have h3:x*(b/B^k%B)≤(B-1)*(B-1):=Nat.mul_le_mul (by omega) (by omega);have h4:B*B=(B-1)*(B-1)+2*(B-1)+1:=by
   obtain⟨c,rfl⟩: ∃c,B=c+1:=⟨B-1,by omega⟩;simp only [Nat.add_sub_cancel,Nat.add_mul,Nat.mul_add];omega
  omega
end
end Go.Dg

namespace Go.Proofs.YtjlkapdmgjocdaaGreat
open Go.Vl Go.RowKit Go.Dg
end Go.Proofs.YtjlkapdmgjocdaaGreat

namespace Go.Proofs.YtjlkapdmgjocdaaGreat
open Go.Vl Go.RowKit Go.Dg
end Go.Proofs.YtjlkapdmgjocdaaGreat

namespace Go.Proofs.YtjlkapdmgjocdaaGreat
open Go.Vl Go.RowKit Go.Dg
end Go.Proofs.YtjlkapdmgjocdaaGreat

namespace Go.Proofs.YtjlkapdmgjocdaaGreat
open Go.Vl Go.RowKit Go.Dg
end Go.Proofs.YtjlkapdmgjocdaaGreat

namespace Go.Proofs.YtjlkapdmgjocdaaGreat
open Go.Vl Go.RowKit Go.Dg
end Go.Proofs.YtjlkapdmgjocdaaGreat

namespace Go.Proofs.YtjlkapdmgjocdaaGreat
open Go.Vl Go.RowKit Go.Dg
end Go.Proofs.YtjlkapdmgjocdaaGreat

namespace Go.Dg
variable {B:Nat}
theorem Qyt {V S N i d:Nat} (hi:i<N) (hd:S/B^i%B=d):(mix B V S N (i+1)).set i d=mix B V S N i:=by
 apply List.ext_getElem?;intro j;rw [List.getElem?_set];by_cases hj:j<N
 ·rw [Qdu _ _ _ _ _ hj,Qdu _ _ _ _ _ hj,Qbp];by_cases e:i=j
  ·subst e;simp [hj,hd]
  ·simp only [e,if_false];by_cases hlt:j<i
   ·rw [if_pos (by omega),if_pos hlt]
   ·rw [if_neg (by omega),if_neg hlt]
 ·rw [List.getElem?_eq_none (by rw [Qbp];omega),List.getElem?_eq_none (by rw [Qbp];omega),Qbp];simp;omega
theorem Q5g (v N n:Nat) (h:n≤N):(lows B v N).take n=lows B v n:=by
 apply List.ext_getElem?;intro j;by_cases hj:j<n
 ·rw [List.getElem?_take_of_lt hj,Qbv _ _ _ (by omega),Qbv _ _ _ hj]
 ·rw [List.getElem?_eq_none (by rw [List.length_take,Qak];omega),List.getElem?_eq_none (by rw [Qak];omega)]
end Go.Dg

namespace Go.Proofs.YtjlkapdmgjocdaaGreat
open Go.Vl Go.RowKit Go.Dg
abbrev f8:Nat→PV:=fun d:Nat=>PV.int .u8 (d:Int)
def magL (n:Nat):List UInt8:=(digs 256 n).reverse.map fun d=>UInt8.ofNat d
def wPV (n:Int):PV:= .agg [.bool (decide (n<0)),.str ⟨(magL n.natAbs).toArray⟩]
theorem Q0u (l:List Nat):Qee (l.map f8)=some (l.map fun d=>UInt8.ofNat d):=by
 induction l with
 |nil=>rfl
 |cons d l ih=>simp only [List.map_cons,Qee,ih];rfl
theorem Qgs {n:Nat} (h:n<256):IntKind.u8.wrap (n:Int)=(n:Int):=by
 simp [IntKind.wrap,IntKind.signed,IntKind.bits];omega
end Go.Proofs.YtjlkapdmgjocdaaGreat

namespace Go.Dg
variable {B:Nat}

def blen (m:Nat):Nat:=if h:m=0 then 0 else blen (m/2)+1
termination_by m
decreasing_by exact Nat.div_lt_self (Nat.pos_of_ne_zero h) (by decide)
theorem Qgn:blen 0=0:=by unfold blen;simp
theorem Qgo {m:Nat} (h:m≠0):blen m=blen (m/2)+1:=by
  conv=>lhs;unfold blen
  simp [h]
theorem Qei: ∀(k m:Nat),m/2^k≠0→blen m=blen (m/2^k)+k
  |0,m,_=>by simp
  |k+1,m,h=>by
    have e:m/2^(k+1)=m/2/2^k:=by rw [Nat.div_div_eq_div_mul,Nat.pow_succ,Nat.mul_comm]
    have hm:m≠0:=by intro h0;rw [h0]at h;simp at h
    rw [Qgo hm,e,Qei k (m/2) (by rw [←e];exact h)];omega
theorem Qds: ∀(k m:Nat),m<2^k→blen m≤k
  |0,m,h=>by
        obtain rfl:m=0:=by simpa using h
        rw [Qgn];exact Nat.le_refl _
  |k+1,m,h=>by
    by_cases h0:m=0
    · rw [h0,Qgn];omega
    · rw [Qgo h0];have:=Qds k (m/2) (by rw [Nat.pow_succ]at h;omega);omega
theorem Qmm: ∀(k m:Nat),2^k≤m→k<blen m
  |0,m,h=>by
    have h0:m≠0:=by intro e;rw [e]at h;simp at h
    rw [Qgo h0];omega
  |k+1,m,h=>by
    have h0:m≠0:=by intro e;rw [e]at h;have:=Nat.pow_pos (n:=k+1) (show 0<2 by decide);omega
    rw [Qgo h0];have:=Qmm k (m/2) (by rw [Nat.pow_succ]at h;omega);omega
/-- The highest digit. -/
theorem Qd5 (hB:2≤B) {m:Nat} (h:m≠0):m/B^((digs B m).length-1)≠0∧m/B^((digs B m).length-1)<B:=by
  have hp:0<(digs B m).length:=List.length_pos_iff.2 (mt (Qbo hB).1 h);refine⟨(Qda hB m _).1 (by omega),?_⟩;have:=Qbe hB m;have e:B^(digs B m).length=B^((digs B m).length-1)*B:=by rw [←Nat.pow_succ];congr 1;omega
  rw [e]at this;exact Nat.div_lt_of_lt_mul this
theorem Qx1 {m:Nat} (h:m≠0) (c:Nat) (hc:0<c):blen m=blen (m/(2^c)^((digs (2^c) m).length-1))+c*((digs (2^c) m).length-1):=by
  have hB:2≤2^c:=by
    have:=Nat.pow_le_pow_right (show 0<2 by decide) hc;simpa using this
  have:=Qd5 hB h;rw [←Nat.pow_mul]at this ⊢;exact Qei _ _ this.1
end Go.Dg

namespace Go.Proofs.YtjlkapdmgjocdaaGreat
open Go.Vl Go.RowKit Go.Dg
theorem Qdw (m:Nat):(magL m).length=(digs 256 m).length:=by simp [magL]
theorem Q5j (m:Nat):(⟨(magL m).toArray⟩:ByteArray).size=(digs 256 m).length:=by rw [Qib,←Qdw]
theorem Zds {m:Nat} (h:m≠0): ∃d:UInt8,(⟨(magL m).toArray⟩:ByteArray)[0]? =some d∧d.toNat=m/256^((digs 256 m).length-1):=by
 have hp:0<(digs 256 m).length:=List.length_pos_iff.2 (mt (Qbo (by decide)).1 h);have ht:=Qd5 (B:=256) (by decide) h;have hg:=Qa0 (B:=256) (n:=m) (k:=(digs 256 m).length-1) (by decide) (by omega);rw [Nat.mod_eq_of_lt ht.2]at hg;have hl:0<(⟨(magL m).toArray⟩:ByteArray).data.toList.length:=by show 0<(magL m).length;rw [Qdw];exact hp
 refine⟨_,Qsr _ 0 hl,?_⟩;have e:(⟨(magL m).toArray⟩:ByteArray).data.toList[0]=UInt8.ofNat (m/256^((digs 256 m).length-1)):=by
  show(magL m)[0]'(by rw [Qdw];exact hp)=_;have:(magL m)[0]? =some (UInt8.ofNat (m/256^((digs 256 m).length-1))):=by
   rw [magL,List.getElem?_map,List.getElem?_reverse (by omega),Nat.sub_zero,hg];rfl
  exact Option.some.inj (by rw [←this,List.getElem?_eq_getElem])
 rw [e,UInt8.toNat_ofNat_of_lt' ht.2]
def Qih (n:Int):PV:=if 65536<blen n.natAbs then .tup [wPV 0,.int .i64 7]else .tup [wPV n,.int .i64 0]
theorem Qyw:wPV 0= .agg [.bool false,.str ⟨#[]⟩]:=by simp [wPV,magL,Qbi]
end Go.Proofs.YtjlkapdmgjocdaaGreat
