/-
  Dwi, HI1 (merged for the claim).
-/
import Derived.Test.YtciddhkfbgkejaaGreatDoorUXS
set_option linter.unusedSimpArgs false
set_option linter.unusedVariables false
namespace Go.Dg
structure Wd where
 lx:Int
 ly:Int
 lz:Int
 hx:Int
 hy:Int
 hz:Int
 f:Int
 t:Int
 ux:Int
 uy:Int
 uz:Int
deriving DecidableEq
def wd0:Wd:=⟨0,0,0,0,0,0,0,0,0,0,0⟩
def ptB (x y z:Int):Bool:=decide ((-1048576≤x∧x≤1048576)∧(-1048576≤y∧y≤1048576)∧(-1048576≤z∧z≤1048576))
def uB (x:Int):Bool:=decide (-5000≤x∧x≤5000)
def vWd (w:Wd):Bool:=ptB w.lx w.ly w.lz&&(ptB w.hx w.hy w.hz&&(decide (0≤w.f∧w.f<w.t∧w.t≤3600000)&&(decide (w.lx≤w.hx∧w.ly≤w.hy∧w.lz≤w.hz)&&(uB w.ux&&(uB w.uy&&uB w.uz)))))
def Qau (l:List Wd):Bool:=l.all vWd&&decide (l.length≤8)
def blW (x y z t:Int) (w:Wd):Bool:=decide ((w.lx≤x∧x≤w.hx)∧(w.ly≤y∧y≤w.hy)∧(w.lz≤z∧z≤w.hz)∧w.f≤t∧t<w.t)
theorem Qgj {w:Wd} (h:vWd w=true):(-1048576≤w.lx∧w.lx≤1048576)∧(-1048576≤w.ly∧w.ly≤1048576)∧(-1048576≤w.lz∧w.lz≤1048576)∧(-1048576≤w.hx∧w.hx≤1048576)∧(-1048576≤w.hy∧w.hy≤1048576)∧(-1048576≤w.hz∧w.hz≤1048576)∧
  0≤w.f∧w.f<w.t∧w.t≤3600000∧w.lx≤w.hx∧w.ly≤w.hy∧w.lz≤w.hz∧(-5000≤w.ux∧w.ux≤5000)∧(-5000≤w.uy∧w.uy≤5000)∧(-5000≤w.uz∧w.uz≤5000):=by
 simp only [vWd,ptB,uB,Bool.and_eq_true,decide_eq_true_eq]at h
 omega
theorem Qba {l:List Wd} (h:Qau l=true):(∀w∈l,vWd w=true)∧l.length≤8:=by
 simp only [Qau,Bool.and_eq_true,decide_eq_true_eq,List.all_eq_true]at h
 exact h
def Qrk (p:Wd→Bool):List Wd→Nat→Nat→Nat
 | [],_,m=>m
 |w::l,i,m=>Qrk p l (i+1) (if p w then m+2^i else m)
def mask (p:Wd→Bool) (l:List Wd):Nat:=Qrk p l 0 0
theorem Qj9 (p:Wd→Bool): ∀(a b:List Wd) (i m:Nat),Qrk p (a++b) i m=Qrk p b (i+a.length) (Qrk p a i m)
 | [],_,_,_=>rfl
 |w::a,b,i,m=>by
  simp only [List.cons_append,Qrk,List.length_cons]
  rw [Qj9 p a b,Nat.add_assoc,Nat.add_comm 1]
theorem Qrl (p:Wd→Bool) (a:List Wd) (w:Wd):mask p (a++[w])=if p w then mask p a+2^a.length else mask p a:=by
 unfold mask
 rw [Qj9,Nat.zero_add];rfl
theorem Qv7 (p:Wd→Bool): ∀(a:List Wd) (i m:Nat),m<2^i→Qrk p a i m<2^(i+a.length)
 | [],_,_,h=>h
 |w::a,i,m,h=>by
  have h1:2^(i+1)=2^i+2^i:=by rw [Nat.pow_succ];omega
  have:=Qv7 p a (i+1) (if p w then m+2^i else m) (by split<;>omega)
  simp only [Qrk,List.length_cons]
  rw [show i+(a.length+1)=i+1+a.length from by omega]
  exact this
theorem Qtw (p:Wd→Bool) (a:List Wd):mask p a<2^a.length:=by
 have:=Qv7 p a 0 0 (by decide)
 rwa [Nat.zero_add]at this
theorem Zmc {m k:Nat} (h:m<2^k):m ||| 2^k=m+2^k:=by
 have:=Nat.two_pow_add_eq_or_of_lt h 1
 rw [Nat.mul_one,Nat.add_comm,Nat.or_comm]at this
 exact this.symm
def Qbm (m:Nat):List Nat:=(List.range 8).filter fun i=>m.testBit i
def lowB (m:Nat):Nat:=(Qbm m).headD 0
theorem Qx5: ∀m,m<256→m≠0→Qbm m=lowB m::Qbm (m &&& (m-1))∧(m &&& (m-1))<256∧lowB m<8:=by decide+kernel
theorem Qjo:Qbm 0=[]:=by decide+kernel
theorem Q87: ∀m,m<256→Qbm m=[]→m=0:=by decide+kernel
def Qhj:Nat→Nat→Nat
 |0,m=>m
 |k+1,m=>Qhj k (m &&& (m-1))
theorem Qjp: ∀(k m:Nat),m<256→k≤(Qbm m).length→Qbm (Qhj k m)=(Qbm m).drop k∧Qhj k m<256
 |0,m,h,_=>⟨rfl,h⟩
 |k+1,m,h,hk=>by
  have h0:m≠0:=by rintro rfl;rw [Qjo]at hk;simp at hk
  obtain⟨e,h1, -⟩:=Qx5 m h h0
  rw [e]at hk ⊢
  simp only [List.length_cons]at hk
  obtain⟨i1,i2⟩:=Qjp k (m &&& (m-1)) h1 (by omega)
  exact⟨by simp only [Qhj,List.drop_succ_cons];exact i1,i2⟩
theorem Qn5: ∀(k m:Nat),Qhj (k+1) m=Qhj k m &&& (Qhj k m-1)
 |0,_=>rfl
 |k+1,m=>by
  show Qhj (k+1) (m &&& (m-1))=_
  rw [Qn5 k];rfl
theorem Q1l {k m:Nat} (h:m<256) (hk:k<(Qbm m).length):Qhj k m≠0∧lowB (Qhj k m)=(Qbm m).getD k 0∧Qhj k m<256:=by
 obtain⟨e1,e2⟩:=Qjp k m h (by omega)
 refine⟨?_,?_,e2⟩
 ·intro e0
  rw [e0,Qjo]at e1
  have:=congrArg List.length e1
  simp at this;omega
 ·unfold lowB
  rw [e1,List.headD_eq_head?_getD,List.head?_drop,List.getD_eq_getElem?_getD]
theorem Q1m {m:Nat} (h:m<256):Qhj (Qbm m).length m=0:=by
 obtain⟨e1,e2⟩:=Qjp _ m h (Nat.le_refl _)
 exact Q87 _ e2 (by rw [e1,List.drop_length])
def onI (p:Wd→Bool):List Wd→Nat→List Nat
 | [],_=>[]
 |w::l,i=>if p w then i::onI p l (i+1)else onI p l (i+1)
theorem Qn6 (p:Wd→Bool): ∀(a b:List Wd) (i:Nat),onI p (a++b) i=onI p a i++onI p b (i+a.length)
 | [],_,_=>rfl
 |w::a,b,i=>by
  simp only [List.cons_append,onI,List.length_cons]
  rw [Qn6 p a b,show i+1+a.length=i+(a.length+1)from by omega]
  split<;>simp
theorem Qv8 (p:Wd→Bool) (a:List Wd) (w:Wd):onI p (a++[w]) 0=if p w then onI p a 0++[a.length]else onI p a 0:=by
 rw [Qn6,Nat.zero_add]
 simp only [onI]
 split<;>simp
theorem Q1n (p:Wd→Bool): ∀(a:List Wd) (i k:Nat),k∈onI p a i→i≤k∧k<i+a.length
 | [],_,_,h=>nomatch h
 |w::a,i,k,h=>by
  simp only [onI]at h
  simp only [List.length_cons]
  split at h
  ·simp only [List.mem_cons]at h
   rcases h with rfl|h
   ·omega
   ·have:=Q1n p a (i+1) k h;omega
  ·have:=Q1n p a (i+1) k h;omega
theorem Q88: ∀m,m<256→ ∀k,k<8→m<2^k→Qbm (m+2^k)=Qbm m++[k]:=by decide+kernel
theorem bits_mask (p:Wd→Bool) (l:List Wd) (h:l.length≤8):Qbm (mask p l)=onI p l 0:=by
 have key: ∀k,k≤l.length→Qbm (mask p (l.take k))=onI p (l.take k) 0:=by
  intro k
  induction k with
  |zero=>intro _;rw [List.take_zero];exact Qjo
  |succ k ih=>
   intro hk
   have ih:=ih (by omega)
   have hk':k<l.length:=by omega
   have e:l.take (k+1)=l.take k++[l[k]]:=by rw [List.take_add_one,List.getElem?_eq_getElem hk'];rfl
   have hlt:=Qtw p (l.take k)
   have hl:(l.take k).length=k:=by simp;omega
   rw [hl]at hlt
   rw [e,Qrl,Qv8,hl]
   have h256:(2:Nat)^k≤2^7:=Nat.pow_le_pow_right (by decide) (by omega)
   split
   ·rw [Q88 _ (by omega) k (by omega) hlt,ih]
   ·exact ih
 have:=key l.length (Nat.le_refl _)
 rwa [List.take_length]at this
theorem Qv9 (p:Wd→Bool) {l:List Wd} (h:l.length≤8):mask p l<256:=by
 have h1:=Qtw p l
 have h256:(2:Nat)^l.length≤2^8:=Nat.pow_le_pow_right (by decide) h
 omega
def smW (g:Wd→Int):List Wd→Int
 | []=>0
 |w::l=>g w+smW g l
theorem Qjq (g:Wd→Int): ∀a b:List Wd,smW g (a++b)=smW g a+smW g b
 | [],b=>by simp [smW]
 |w::a,b=>by simp only [List.cons_append,smW];rw [Qjq g a b,Int.add_assoc]
def pick (l:List Wd) (ix:List Nat):List Wd:=ix.map fun i=>l.getD i wd0
theorem Q1o (p:Wd→Bool) (l:List Wd):pick l (onI p l 0)=l.filter p:=by
 have key: ∀(b a:List Wd),l=a++b→pick l (onI p b a.length)=b.filter p:=by
  intro b
  induction b with
  |nil=>intro a _;rfl
  |cons w b ih=>
   intro a e
   have:=ih (a++[w]) (by rw [e,List.append_assoc];rfl)
   rw [List.length_append]at this
   simp only [onI,List.filter_cons]
   have hw:l.getD a.length wd0=w:=by rw [e,List.getD_eq_getElem?_getD,List.getElem?_append_right (Nat.le_refl _)];simp
   split
   ·unfold pick at this ⊢
    rw [List.map_cons,hw];exact congrArg _ this
   ·exact this
 exact key l [] rfl
theorem Q1p (g:Wd→Int) (K:Int): ∀l:List Wd,(∀w∈l, -K≤g w∧g w≤K)→ -(K*l.length)≤smW g l∧smW g l≤K*l.length
 | [],_=>by simp [smW]
 |w::l,h=>by
  have h1:=h w (by simp)
  have h2:=Q1p g K l fun x hx=>h x (by simp [hx])
  simp only [smW,List.length_cons,Int.natCast_add,Int.mul_add]
  generalize K*(l.length:Int)=q at*
  omega
theorem Q89 {l:List Wd} {ix:List Nat} (h: ∀i∈ix,i<l.length) {w:Wd} (hw:w∈pick l ix):w∈l:=by
 obtain⟨i,hi,rfl⟩:=List.mem_map.1 hw
 rw [List.getD_eq_getElem?_getD,List.getElem?_eq_getElem (h i hi)]
 exact List.getElem_mem _
def atW (g:Wd→Int) (l:List Wd) (x y z t:Int):Int:=smW g (l.filter (blW x y z t))
theorem Ql6 (g:Wd→Int) (a b:List Wd) (x y z t:Int):atW g (a++b) x y z t=atW g a x y z t+atW g b x y z t:=by
 unfold atW;rw [List.filter_append,Qjq]
theorem Qf9 {g:Wd→Int} (hg:g=Wd.ux∨g=Wd.uy∨g=Wd.uz) {l:List Wd} (hv:Qau l=true) (x y z t:Int): -40000≤atW g l x y z t∧atW g l x y z t≤40000:=by
 obtain⟨h1,h2⟩:=Qba hv
 have h3:=Q1p g 5000 (l.filter (blW x y z t)) fun w hw=>by
  have:=Qgj (h1 w (List.mem_filter.1 hw).1)
  rcases hg with rfl|rfl|rfl<;>omega
 have h4:=List.length_filter_le (blW x y z t) l
 unfold atW;omega
end Go.Dg

namespace Go.Proofs.YtciddhkfbgkejaaGreatDoor
open Go.Vl Go.RowKit Go.Dg
def wdPV (w:Wd):PV:= .agg [.int .i64 w.lx,.int .i64 w.ly,.int .i64 w.lz,.int .i64 w.hx,.int .i64 w.hy,.int .i64 w.hz,.int .i64 w.f,.int .i64 w.t,.int .i64 w.ux,.int .i64 w.uy,.int .i64 w.uz]
attribute [go_sem] wdPV
abbrev wsPV (l:List Wd):PV:= .slc (l.map wdPV)
theorem wr_1:IntKind.i64.wrap 1=1:=rfl
theorem wr_2:IntKind.i64.wrap 2=2:=rfl
theorem wr_3:IntKind.i64.wrap 3=3:=rfl
theorem wr_4:IntKind.i64.wrap 4=4:=rfl
theorem nc_2:((2:Nat):Int)=2:=rfl
theorem nc_3:((3:Nat):Int)=3:=rfl
theorem nc_4:((4:Nat):Int)=4:=rfl
attribute [go_sem] wr_1 wr_2 wr_3 wr_4 nc_2 nc_3 nc_4
theorem Qie (l:List Wd) (i:Nat) (h:i<l.length):(l.map wdPV)[i]? =some (wdPV l[i]):=by rw [List.getElem?_map,List.getElem?_eq_getElem h];rfl
theorem Qif {x y z:Int} (h:ptB x y z=false): ¬((-1048576≤x∧x≤1048576)∧(-1048576≤y∧y≤1048576)∧(-1048576≤z∧z≤1048576)):=of_decide_eq_false h
theorem Qlc {x y z:Int} (h:ptB x y z=true):(-1048576≤x∧x≤1048576)∧(-1048576≤y∧y≤1048576)∧(-1048576≤z∧z≤1048576):=of_decide_eq_true h
theorem Qpi {x:Int} (h:uB x=false): ¬(-5000≤x∧x≤5000):=of_decide_eq_false h
theorem Qtz {x:Int} (h:uB x=true): -5000≤x∧x≤5000:=of_decide_eq_true h
abbrev WdOk (w:Wd):Prop:=(-1048576≤w.lx∧w.lx≤1048576)∧(-1048576≤w.ly∧w.ly≤1048576)∧(-1048576≤w.lz∧w.lz≤1048576)∧(-1048576≤w.hx∧w.hx≤1048576)∧(-1048576≤w.hy∧w.hy≤1048576)∧(-1048576≤w.hz∧w.hz≤1048576)∧
  0≤w.f∧w.f<w.t∧w.t≤3600000∧w.lx≤w.hx∧w.ly≤w.hy∧w.lz≤w.hz∧(-5000≤w.ux∧w.ux≤5000)∧(-5000≤w.uy∧w.uy≤5000)∧(-5000≤w.uz∧w.uz≤5000)
theorem Q1v {w:Wd} (h:WdOk w):vWd w=true:=by
 unfold WdOk at h
 simp only [vWd,ptB,uB,Bool.and_eq_true,decide_eq_true_eq]
 omega
theorem Qoa {l:List Wd} {i:Nat} {h:i<l.length} (e: ¬WdOk l[i]):Qau l=false:=by
 cases e2:Qau l with
 |false=>rfl
 |true=>exact(e (Qgj ((Qba e2).1 _ (List.getElem_mem h)))).elim
theorem Q1w {l:List Wd} {i:Nat} (h:i<l.length) (h1:(l.take i).all vWd=true) (h2:vWd l[i]=true):(l.take (i+1)).all vWd=true:=by
 rw [Qa1 l i h,List.all_append,h1];simp [h2]
set_option maxRecDepth 100000 in
theorem Q9h (m:Int) (x y z:Int) (hm:0≤m) (hm2:m≤1000000000):Qag Tryz.prog 93 [.int .i64 m,.slc [.int .i64 x,.int .i64 y,.int .i64 z]] (.bool (decide ((-m≤x∧x≤m)∧(-m≤y∧y≤m)∧(-m≤z∧z≤m)))):=by
 have wm:IntKind.i64.wrap (0-m)= -m:=by rw [Qah (by omega) (by omega)];omega
 by_cases c0:x< -m
 ·have c0':=eq_true c0
  have e:decide ((-m≤x∧x≤m)∧(-m≤y∧y≤m)∧(-m≤z∧z≤m))=false:=decide_eq_false (by omega)
  refine Qac (tb:=[]) 23 [.tmp 4] [0,1,4,6,7,8,9,10,21] mixed Tryz.func93 rfl (by kernel_rfl) (by kernel_rfl) (by kernel_rfl) (by kernel_rfl) ?_
  repeat (first|(simp -implicitDefEqProofs only [go_sem,Nat.reduceAdd,Nat.reduceMul,Nat.reduceEqDiff,Nat.reduceLT,Nat.reduceLeDiff,reduceCtorEq]))
  refine Qe9 mixed [0,1,2,3] ?_
  repeat (first|(simp -implicitDefEqProofs only [go_sem,Nat.reduceAdd,Nat.reduceMul,Nat.reduceEqDiff,Nat.reduceLT,Nat.reduceLeDiff,reduceCtorEq,Int.reduceLT,wm,e,Bool.not_false,Bool.not_true,c0']))
 have c0':=eq_false c0
 by_cases c1:m<x
 ·have c1':=eq_true c1
  have e:decide ((-m≤x∧x≤m)∧(-m≤y∧y≤m)∧(-m≤z∧z≤m))=false:=decide_eq_false (by omega)
  refine Qac (tb:=[]) 23 [.tmp 4] [0,1,4,6,7,8,9,10,21] mixed Tryz.func93 rfl (by kernel_rfl) (by kernel_rfl) (by kernel_rfl) (by kernel_rfl) ?_
  repeat (first|(simp -implicitDefEqProofs only [go_sem,Nat.reduceAdd,Nat.reduceMul,Nat.reduceEqDiff,Nat.reduceLT,Nat.reduceLeDiff,reduceCtorEq]))
  refine Qe9 mixed [0,1,2,3] ?_
  repeat (first|(simp -implicitDefEqProofs only [go_sem,Nat.reduceAdd,Nat.reduceMul,Nat.reduceEqDiff,Nat.reduceLT,Nat.reduceLeDiff,reduceCtorEq,Int.reduceLT,wm,e,Bool.not_false,Bool.not_true,c0',c1']))
 have c1':=eq_false c1
 by_cases c2:y< -m
 ·have c2':=eq_true c2
  have e:decide ((-m≤x∧x≤m)∧(-m≤y∧y≤m)∧(-m≤z∧z≤m))=false:=decide_eq_false (by omega)
  refine Qac (tb:=[]) 23 [.tmp 4] [0,1,4,6,7,8,9,10,21] mixed Tryz.func93 rfl (by kernel_rfl) (by kernel_rfl) (by kernel_rfl) (by kernel_rfl) ?_
  repeat (first|(simp -implicitDefEqProofs only [go_sem,Nat.reduceAdd,Nat.reduceMul,Nat.reduceEqDiff,Nat.reduceLT,Nat.reduceLeDiff,reduceCtorEq]))
  refine Qe9 mixed [0,1,2,3] ?_
  repeat (first|(simp -implicitDefEqProofs only [go_sem,Nat.reduceAdd,Nat.reduceMul,Nat.reduceEqDiff,Nat.reduceLT,Nat.reduceLeDiff,reduceCtorEq,Int.reduceLE,Int.reduceLT,Int.reduceToNat,Int.reduceAdd,wm,e,Bool.not_false,Bool.not_true,c0',c1',c2']))
 have c2':=eq_false c2
 by_cases c3:m<y
 ·have c3':=eq_true c3
  have e:decide ((-m≤x∧x≤m)∧(-m≤y∧y≤m)∧(-m≤z∧z≤m))=false:=decide_eq_false (by omega)
  refine Qac (tb:=[]) 23 [.tmp 4] [0,1,4,6,7,8,9,10,21] mixed Tryz.func93 rfl (by kernel_rfl) (by kernel_rfl) (by kernel_rfl) (by kernel_rfl) ?_
  repeat (first|(simp -implicitDefEqProofs only [go_sem,Nat.reduceAdd,Nat.reduceMul,Nat.reduceEqDiff,Nat.reduceLT,Nat.reduceLeDiff,reduceCtorEq]))
  refine Qe9 mixed [0,1,2,3] ?_
  repeat (first|(simp -implicitDefEqProofs only [go_sem,Nat.reduceAdd,Nat.reduceMul,Nat.reduceEqDiff,Nat.reduceLT,Nat.reduceLeDiff,reduceCtorEq,Int.reduceLE,Int.reduceLT,Int.reduceToNat,Int.reduceAdd,wm,e,Bool.not_false,Bool.not_true,c0',c1',c2',c3']))
 have c3':=eq_false c3
 by_cases c4:z< -m
 ·have c4':=eq_true c4
  have e:decide ((-m≤x∧x≤m)∧(-m≤y∧y≤m)∧(-m≤z∧z≤m))=false:=decide_eq_false (by omega)
  refine Qac (tb:=[]) 23 [.tmp 4] [0,1,4,6,7,8,9,10,21] mixed Tryz.func93 rfl (by kernel_rfl) (by kernel_rfl) (by kernel_rfl) (by kernel_rfl) ?_
  repeat (first|(simp -implicitDefEqProofs only [go_sem,Nat.reduceAdd,Nat.reduceMul,Nat.reduceEqDiff,Nat.reduceLT,Nat.reduceLeDiff,reduceCtorEq]))
  refine Qe9 mixed [0,1,2,3] ?_
  repeat (first|(simp -implicitDefEqProofs only [go_sem,Nat.reduceAdd,Nat.reduceMul,Nat.reduceEqDiff,Nat.reduceLT,Nat.reduceLeDiff,reduceCtorEq,Int.reduceLE,Int.reduceLT,Int.reduceToNat,Int.reduceAdd,wm,e,Bool.not_false,Bool.not_true,c0',c1',c2',c3',c4']))
 have c4':=eq_false c4
 by_cases c5:m<z
 ·have c5':=eq_true c5
  have e:decide ((-m≤x∧x≤m)∧(-m≤y∧y≤m)∧(-m≤z∧z≤m))=false:=decide_eq_false (by omega)
  refine Qac (tb:=[]) 23 [.tmp 4] [0,1,4,6,7,8,9,10,21] mixed Tryz.func93 rfl (by kernel_rfl) (by kernel_rfl) (by kernel_rfl) (by kernel_rfl) ?_
  repeat (first|(simp -implicitDefEqProofs only [go_sem,Nat.reduceAdd,Nat.reduceMul,Nat.reduceEqDiff,Nat.reduceLT,Nat.reduceLeDiff,reduceCtorEq]))
  refine Qe9 mixed [0,1,2,3] ?_
  repeat (first|(simp -implicitDefEqProofs only [go_sem,Nat.reduceAdd,Nat.reduceMul,Nat.reduceEqDiff,Nat.reduceLT,Nat.reduceLeDiff,reduceCtorEq,Int.reduceLE,Int.reduceLT,Int.reduceToNat,Int.reduceAdd,wm,e,Bool.not_false,Bool.not_true,c0',c1',c2',c3',c4',c5']))
 have c5':=eq_false c5
 have e:decide ((-m≤x∧x≤m)∧(-m≤y∧y≤m)∧(-m≤z∧z≤m))=true:=decide_eq_true (by omega)
 refine Qac (tb:=[]) 23 [.tmp 4] [0,1,4,6,7,8,9,10,21] mixed Tryz.func93 rfl (by kernel_rfl) (by kernel_rfl) (by kernel_rfl) (by kernel_rfl) ?_
 repeat (first|(simp -implicitDefEqProofs only [go_sem,Nat.reduceAdd,Nat.reduceMul,Nat.reduceEqDiff,Nat.reduceLT,Nat.reduceLeDiff,reduceCtorEq]))
 refine Qe9 mixed [0,1,2,3] ?_
 repeat (first|(simp -implicitDefEqProofs only [go_sem,Nat.reduceAdd,Nat.reduceMul,Nat.reduceEqDiff,Nat.reduceLT,Nat.reduceLeDiff,reduceCtorEq,Int.reduceLE,Int.reduceLT,Int.reduceToNat,Int.reduceAdd,wm,e,Bool.not_false,Bool.not_true,c0',c1',c2',c3',c4',c5']))
theorem Qpj (x y z:Int):Qag Tryz.prog 48 [.agg [.int .i64 x,.int .i64 y,.int .i64 z]] (.bool (ptB x y z)):=by
 have h:=Q9h 1048576 x y z (by decide) (by decide)
 have e:decide ((-1048576≤x∧x≤1048576)∧(-1048576≤y∧y≤1048576)∧(-1048576≤z∧z≤1048576))=ptB x y z:=rfl
 rw [e]at h
 generalize ptB x y z=b at*
 refine Qac (tb:=[]) 11 [.tmp 2] [0,1,2] mixed Tryz.func48 rfl (by kernel_rfl) (by kernel_rfl) (by kernel_rfl) (by kernel_rfl) ?_
 repeat (first|(simp -implicitDefEqProofs only [go_sem,Nat.reduceAdd,Nat.reduceMul,Nat.reduceEqDiff,Nat.reduceLT,Nat.reduceLeDiff,reduceIte,reduceCtorEq])|((with_reducible refine Qab (h) ?_ ?_ ?_);(with_reducible rfl);rfl))
theorem Qpk (x:Int):Qag Tryz.prog 56 [.int .i64 x] (.bool (decide (-1048576≤x)&&decide (x≤1048576))):=by
 by_cases c: -1048576≤x
 ·have c':=eq_true c
  rw [decide_eq_true c]
  refine Qac (tb:=[]) 9 [.tmp 2] [0,2] mixed Tryz.func56 rfl (by kernel_rfl) (by kernel_rfl) (by kernel_rfl) (by kernel_rfl) ?_
  repeat (first|(simp -implicitDefEqProofs only [go_sem,Nat.reduceAdd,Nat.reduceMul,Nat.reduceEqDiff,Nat.reduceLT,Nat.reduceLeDiff,reduceCtorEq,Int.reduceNeg,c',Bool.true_and]))
 ·have c':=eq_false c
  rw [decide_eq_false c]
  refine Qac (tb:=[]) 9 [.tmp 2] [0,2] mixed Tryz.func56 rfl (by kernel_rfl) (by kernel_rfl) (by kernel_rfl) (by kernel_rfl) ?_
  repeat (first|(simp -implicitDefEqProofs only [go_sem,Nat.reduceAdd,Nat.reduceMul,Nat.reduceEqDiff,Nat.reduceLT,Nat.reduceLeDiff,reduceCtorEq,Int.reduceNeg,c',Bool.false_and]))
theorem Qig (x y z:Int):Qag Tryz.prog 17 [.agg [.int .i64 x,.int .i64 y,.int .i64 z]] (.bool (ptB x y z)):=by
 have h1:=Qpk x
 have h2:=Qpk y
 have h3:=Qpk z
 have e:ptB x y z=((decide (-1048576≤x)&&decide (x≤1048576))&&((decide (-1048576≤y)&&decide (y≤1048576))&&(decide (-1048576≤z)&&decide (z≤1048576)))):=by
  rw [ptB,Bool.eq_iff_iff];simp [Bool.and_eq_true]
 rw [e]
 clear e
 generalize (decide (-1048576≤x)&&decide (x≤1048576))=b1 at*
 generalize (decide (-1048576≤y)&&decide (y≤1048576))=b2 at*
 generalize (decide (-1048576≤z)&&decide (z≤1048576))=b3 at*
 cases b1 with
 |false=>
  refine Qac (tb:=[]) 16 [.tmp 2] [0,1,2] mixed Tryz.func17 rfl (by kernel_rfl) (by kernel_rfl) (by kernel_rfl) (by kernel_rfl) ?_
  repeat (first|(simp -implicitDefEqProofs only [go_sem,Nat.reduceAdd,Nat.reduceMul,Nat.reduceEqDiff,Nat.reduceLT,Nat.reduceLeDiff,reduceCtorEq,Bool.false_and])|((with_reducible refine Qab (h1) ?_ ?_ ?_);(with_reducible rfl);rfl))
 |true=>
 cases b2 with
 |false=>
  refine Qac (tb:=[]) 16 [.tmp 2] [0,1,2] mixed Tryz.func17 rfl (by kernel_rfl) (by kernel_rfl) (by kernel_rfl) (by kernel_rfl) ?_
  repeat (first|(simp -implicitDefEqProofs only [go_sem,Nat.reduceAdd,Nat.reduceMul,Nat.reduceEqDiff,Nat.reduceLT,Nat.reduceLeDiff,reduceCtorEq,Bool.false_and,Bool.true_and])|((with_reducible refine Qab (h1) ?_ ?_ ?_);(with_reducible rfl);rfl)|((with_reducible refine Qab (h2) ?_ ?_ ?_);(with_reducible rfl);rfl))
 |true=>
  refine Qac (tb:=[]) 16 [.tmp 2] [0,1,2] mixed Tryz.func17 rfl (by kernel_rfl) (by kernel_rfl) (by kernel_rfl) (by kernel_rfl) ?_
  repeat (first|(simp -implicitDefEqProofs only [go_sem,Nat.reduceAdd,Nat.reduceMul,Nat.reduceEqDiff,Nat.reduceLT,Nat.reduceLeDiff,reduceCtorEq,Bool.true_and])|((with_reducible refine Qab (h1) ?_ ?_ ?_);(with_reducible rfl);rfl)|((with_reducible refine Qab (h2) ?_ ?_ ?_);(with_reducible rfl);rfl)|((with_reducible refine Qab (h3) ?_ ?_ ?_);(with_reducible rfl);rfl))
theorem Qpl (x:Int):Qag Tryz.prog 50 [.int .i64 x] (.bool (uB x)):=by
 by_cases c: -5000≤x
 ·have c':=eq_true c
  have e:uB x=decide (x≤5000):=by rw [uB,Bool.eq_iff_iff];simp [c]
  rw [e]
  refine Qac (tb:=[]) 9 [.tmp 2] [0,2] mixed Tryz.func50 rfl (by kernel_rfl) (by kernel_rfl) (by kernel_rfl) (by kernel_rfl) ?_
  repeat (first|(simp -implicitDefEqProofs only [go_sem,Nat.reduceAdd,Nat.reduceMul,Nat.reduceEqDiff,Nat.reduceLT,Nat.reduceLeDiff,reduceCtorEq,Int.reduceNeg,c']))
 ·have c':=eq_false c
  have e:uB x=false:=by rw [uB];exact decide_eq_false (by omega)
  rw [e]
  refine Qac (tb:=[]) 9 [.tmp 2] [0,2] mixed Tryz.func50 rfl (by kernel_rfl) (by kernel_rfl) (by kernel_rfl) (by kernel_rfl) ?_
  repeat (first|(simp -implicitDefEqProofs only [go_sem,Nat.reduceAdd,Nat.reduceMul,Nat.reduceEqDiff,Nat.reduceLT,Nat.reduceLeDiff,reduceCtorEq,Int.reduceNeg,c']))
theorem Qgk (x y z:Int):Qag Tryz.prog 49 [.agg [.int .i64 x,.int .i64 y,.int .i64 z]] (.agg [.int .i64 x,.int .i64 y,.int .i64 z]):=by
 refine Qac (tb:=[]) 10 [.cell 2 87] [0,1,2] mixed Tryz.func49 rfl (by kernel_rfl) (by kernel_rfl) (by kernel_rfl) (by kernel_rfl) ?_
 repeat (first|(simp -implicitDefEqProofs only [go_sem,Nat.reduceAdd,Nat.reduceMul,Nat.reduceEqDiff,Nat.reduceLT,Nat.reduceLeDiff,reduceCtorEq]))
set_option maxHeartbeats 8000000 in
set_option maxRecDepth 100000 in
theorem Qih (l:List Wd) (hl:l.length≤maxLen):Qag Tryz.prog 13 [wsPV l] (.bool (Qau l)):=by
 have hm:=Qds
 refine Qac (tb:=[]) 75 [.tmp 2] [0,2,4,5,6,7,8,9,10,11,12,41,50,51,52,69] mixed Tryz.func13 rfl (by kernel_rfl) (by kernel_rfl) (by kernel_rfl) (by kernel_rfl) ?_
 repeat (first|(simp -implicitDefEqProofs only [go_sem,Nat.reduceAdd,Nat.reduceMul,Nat.reduceEqDiff,Nat.reduceLT,Nat.reduceLeDiff,reduceCtorEq,Int.reduceNeg])|(with_reducible exact Qaa _ _ (by kernel_rfl))|(with_reducible refine And.intro (Qaa _ _ (by kernel_rfl)) ?_))
 refine Qar mixed (fun i:{i:Nat // i≤l.length∧(l.take i).all vWd=true}=>St.of [(0,wsPV l),(9,wsPV l),(10,.int .i64 (l.length:Int)),(11,.int .i64 (i.1:Int))] []) (fun i=>l.length-i.1) ⟨0,Nat.zero_le _,rfl⟩ ?_ ?_
 ·refine Qay ?_
  simp [Qad,lkp,ren1,ren0,Qal,wsPV]
 rintro⟨i,hi,hall⟩
 simp only
 by_cases hA:i<l.length
 case neg=>
  have hA':=ltF hA
  have et:l.take i=l:=List.take_of_length_le (by omega)
  rw [et]at hall
  by_cases h8:l.length≤8
  ·have h8':((l.length:Int)≤8)=True:=eq_true (by omega)
   have e:Qau l=true:=by simp [Qau,hall,h8]
   repeat (first|(simp -implicitDefEqProofs only [go_sem,Nat.reduceAdd,Nat.reduceMul,Nat.reduceEqDiff,Nat.reduceLT,Nat.reduceLeDiff,reduceCtorEq,Int.reduceNeg,hA',h8',e,List.length_map,decide_true,decide_false])|(with_reducible exact Qaa _ _ (by kernel_rfl))|(with_reducible refine And.intro (Qaa _ _ (by kernel_rfl)) ?_))
  ·have h8':((l.length:Int)≤8)=False:=eq_false (by omega)
   have e:Qau l=false:=by simp [Qau,h8]
   repeat (first|(simp -implicitDefEqProofs only [go_sem,Nat.reduceAdd,Nat.reduceMul,Nat.reduceEqDiff,Nat.reduceLT,Nat.reduceLeDiff,reduceCtorEq,Int.reduceNeg,hA',h8',e,List.length_map,decide_true,decide_false])|(with_reducible exact Qaa _ _ (by kernel_rfl))|(with_reducible refine And.intro (Qaa _ _ (by kernel_rfl)) ?_))
 have hA':=ltT hA
 have n0:=nnT i
 have hg:=Qie l i hA
 have hwk:=Qai (a:=i) (by omega)
 have hbad:=fun h=>Qoa (h:=hA) h
 have hok:=Q1w hA hall
 generalize l[i]=w at*
 have h0:=Qpj w.lx w.ly w.lz
 have h1:=Qpj w.hx w.hy w.hz
 have q0:=Qgk w.lx w.ly w.lz
 have q1:=Qgk w.hx w.hy w.hz
 have q2:=Qgk w.ux w.uy w.uz
 cases c0:ptB w.lx w.ly w.lz with
 |false=>
  rw [c0]at h0
  have c0:=Qif c0
  have e:Qau l=false:=hbad (by unfold WdOk;omega)
  repeat (first|(simp -implicitDefEqProofs only [go_sem,Nat.reduceAdd,Nat.reduceMul,Nat.reduceEqDiff,Nat.reduceLT,Nat.reduceLeDiff,reduceCtorEq,Int.reduceNeg,hA',n0,hg,hwk,e,Int.toNat_natCast,List.length_map,Bool.not_true,Bool.not_false,decide_true,decide_false])|((with_reducible refine Qab (h0) ?_ ?_ ?_);(with_reducible rfl);rfl)|((with_reducible refine Qab (h1) ?_ ?_ ?_);(with_reducible rfl);rfl)|(with_reducible exact Qaa _ _ (by kernel_rfl))|(with_reducible refine And.intro (Qaa _ _ (by kernel_rfl)) ?_))
 |true=>
 rw [c0]at h0
 have c0:=Qlc c0
 cases c1:ptB w.hx w.hy w.hz with
 |false=>
  rw [c1]at h1
  have c1:=Qif c1
  have e:Qau l=false:=hbad (by unfold WdOk;omega)
  repeat (first|(simp -implicitDefEqProofs only [go_sem,Nat.reduceAdd,Nat.reduceMul,Nat.reduceEqDiff,Nat.reduceLT,Nat.reduceLeDiff,reduceCtorEq,Int.reduceNeg,hA',n0,hg,hwk,e,Int.toNat_natCast,List.length_map,Bool.not_true,Bool.not_false,decide_true,decide_false])|((with_reducible refine Qab (h0) ?_ ?_ ?_);(with_reducible rfl);rfl)|((with_reducible refine Qab (h1) ?_ ?_ ?_);(with_reducible rfl);rfl)|(with_reducible exact Qaa _ _ (by kernel_rfl))|(with_reducible refine And.intro (Qaa _ _ (by kernel_rfl)) ?_))
 |true=>
 rw [c1]at h1
 have c1:=Qlc c1
 by_cases c2:w.f<0
 ·have c2':=eq_true c2
  have e:Qau l=false:=hbad (by unfold WdOk;omega)
  repeat (first|(simp -implicitDefEqProofs only [go_sem,Nat.reduceAdd,Nat.reduceMul,Nat.reduceEqDiff,Nat.reduceLT,Nat.reduceLeDiff,reduceCtorEq,Int.reduceNeg,hA',n0,hg,hwk,e,Int.toNat_natCast,List.length_map,Bool.not_true,Bool.not_false,decide_true,decide_false,c2'])|((with_reducible refine Qab (h0) ?_ ?_ ?_);(with_reducible rfl);rfl)|((with_reducible refine Qab (h1) ?_ ?_ ?_);(with_reducible rfl);rfl)|(with_reducible exact Qaa _ _ (by kernel_rfl))|(with_reducible refine And.intro (Qaa _ _ (by kernel_rfl)) ?_))
 have c2':=eq_false c2
 by_cases c3:w.t≤w.f
 ·have c3':=eq_true c3
  have e:Qau l=false:=hbad (by unfold WdOk;omega)
  repeat (first|(simp -implicitDefEqProofs only [go_sem,Nat.reduceAdd,Nat.reduceMul,Nat.reduceEqDiff,Nat.reduceLT,Nat.reduceLeDiff,reduceCtorEq,Int.reduceNeg,hA',n0,hg,hwk,e,Int.toNat_natCast,List.length_map,Bool.not_true,Bool.not_false,decide_true,decide_false,c2',c3'])|((with_reducible refine Qab (h0) ?_ ?_ ?_);(with_reducible rfl);rfl)|((with_reducible refine Qab (h1) ?_ ?_ ?_);(with_reducible rfl);rfl)|(with_reducible exact Qaa _ _ (by kernel_rfl))|(with_reducible refine And.intro (Qaa _ _ (by kernel_rfl)) ?_))
 have c3':=eq_false c3
 by_cases c4:3600000<w.t
 ·have c4':=eq_true c4
  have e:Qau l=false:=hbad (by unfold WdOk;omega)
  repeat (first|(simp -implicitDefEqProofs only [go_sem,Nat.reduceAdd,Nat.reduceMul,Nat.reduceEqDiff,Nat.reduceLT,Nat.reduceLeDiff,reduceCtorEq,Int.reduceNeg,hA',n0,hg,hwk,e,Int.toNat_natCast,List.length_map,Bool.not_true,Bool.not_false,decide_true,decide_false,c2',c3',c4'])|((with_reducible refine Qab (h0) ?_ ?_ ?_);(with_reducible rfl);rfl)|((with_reducible refine Qab (h1) ?_ ?_ ?_);(with_reducible rfl);rfl)|(with_reducible exact Qaa _ _ (by kernel_rfl))|(with_reducible refine And.intro (Qaa _ _ (by kernel_rfl)) ?_))
 have c4':=eq_false c4
 repeat (first|(simp -implicitDefEqProofs only [go_sem,Nat.reduceAdd,Nat.reduceMul,Nat.reduceEqDiff,Nat.reduceLT,Nat.reduceLeDiff,reduceCtorEq,Int.reduceNeg,hA',n0,hg,hwk,Int.toNat_natCast,List.length_map,Bool.not_true,Bool.not_false,decide_true,decide_false,c2',c3',c4'])|((with_reducible refine Qab (h0) ?_ ?_ ?_);(with_reducible rfl);rfl)|((with_reducible refine Qab (h1) ?_ ?_ ?_);(with_reducible rfl);rfl)|((with_reducible refine Qab (q0) ?_ ?_ ?_);(with_reducible rfl);rfl)|((with_reducible refine Qab (q1) ?_ ?_ ?_);(with_reducible rfl);rfl)|((with_reducible refine Qab (q2) ?_ ?_ ?_);(with_reducible rfl);rfl)|(with_reducible exact Qaa _ _ (by kernel_rfl))|(with_reducible refine And.intro (Qaa _ _ (by kernel_rfl)) ?_))
 refine Qe9 mixed [0,1,2,3] ?_
 by_cases c5:w.hx<w.lx
 ·have c5':=eq_true c5
  have e:Qau l=false:=hbad (by unfold WdOk;omega)
  repeat (first|(simp -implicitDefEqProofs only [go_sem,Nat.reduceAdd,Nat.reduceMul,Nat.reduceEqDiff,Nat.reduceLT,Nat.reduceLeDiff,reduceCtorEq,Int.reduceLT,Int.reduceNeg,hA',n0,hg,hwk,e,Int.toNat_natCast,List.length_map,Bool.not_true,Bool.not_false,decide_true,decide_false,c2',c3',c4',c5'])|(with_reducible exact Qaa _ _ (by kernel_rfl))|(with_reducible refine And.intro (Qaa _ _ (by kernel_rfl)) ?_))
 have c5':=eq_false c5
 by_cases c6:w.ux< -5000
 ·have c6':=eq_true c6
  have e:Qau l=false:=hbad (by unfold WdOk;omega)
  repeat (first|(simp -implicitDefEqProofs only [go_sem,Nat.reduceAdd,Nat.reduceMul,Nat.reduceEqDiff,Nat.reduceLT,Nat.reduceLeDiff,reduceCtorEq,Int.reduceLT,Int.reduceNeg,hA',n0,hg,hwk,e,Int.toNat_natCast,List.length_map,Bool.not_true,Bool.not_false,decide_true,decide_false,c2',c3',c4',c5',c6'])|(with_reducible exact Qaa _ _ (by kernel_rfl))|(with_reducible refine And.intro (Qaa _ _ (by kernel_rfl)) ?_))
 have c6':=eq_false c6
 by_cases c7:5000<w.ux
 ·have c7':=eq_true c7
  have e:Qau l=false:=hbad (by unfold WdOk;omega)
  repeat (first|(simp -implicitDefEqProofs only [go_sem,Nat.reduceAdd,Nat.reduceMul,Nat.reduceEqDiff,Nat.reduceLT,Nat.reduceLeDiff,reduceCtorEq,Int.reduceLT,Int.reduceNeg,hA',n0,hg,hwk,e,Int.toNat_natCast,List.length_map,Bool.not_true,Bool.not_false,decide_true,decide_false,c2',c3',c4',c5',c6',c7'])|(with_reducible exact Qaa _ _ (by kernel_rfl))|(with_reducible refine And.intro (Qaa _ _ (by kernel_rfl)) ?_))
 have c7':=eq_false c7
 by_cases c8:w.hy<w.ly
 ·have c8':=eq_true c8
  have e:Qau l=false:=hbad (by unfold WdOk;omega)
  repeat (first|(simp -implicitDefEqProofs only [go_sem,Nat.reduceAdd,Nat.reduceMul,Nat.reduceEqDiff,Nat.reduceLT,Nat.reduceLeDiff,reduceCtorEq,Int.reduceLE,Int.reduceLT,Int.reduceToNat,Int.reduceAdd,Int.reduceNeg,hA',n0,hg,hwk,e,Int.toNat_natCast,List.length_map,Bool.not_true,Bool.not_false,decide_true,decide_false,c2',c3',c4',c5',c6',c7',c8'])|(with_reducible exact Qaa _ _ (by kernel_rfl))|(with_reducible refine And.intro (Qaa _ _ (by kernel_rfl)) ?_))
 have c8':=eq_false c8
 by_cases c9:w.uy< -5000
 ·have c9':=eq_true c9
  have e:Qau l=false:=hbad (by unfold WdOk;omega)
  repeat (first|(simp -implicitDefEqProofs only [go_sem,Nat.reduceAdd,Nat.reduceMul,Nat.reduceEqDiff,Nat.reduceLT,Nat.reduceLeDiff,reduceCtorEq,Int.reduceLE,Int.reduceLT,Int.reduceToNat,Int.reduceAdd,Int.reduceNeg,hA',n0,hg,hwk,e,Int.toNat_natCast,List.length_map,Bool.not_true,Bool.not_false,decide_true,decide_false,c2',c3',c4',c5',c6',c7',c8',c9'])|(with_reducible exact Qaa _ _ (by kernel_rfl))|(with_reducible refine And.intro (Qaa _ _ (by kernel_rfl)) ?_))
 have c9':=eq_false c9
 by_cases c10:5000<w.uy
 ·have c10':=eq_true c10
  have e:Qau l=false:=hbad (by unfold WdOk;omega)
  repeat (first|(simp -implicitDefEqProofs only [go_sem,Nat.reduceAdd,Nat.reduceMul,Nat.reduceEqDiff,Nat.reduceLT,Nat.reduceLeDiff,reduceCtorEq,Int.reduceLE,Int.reduceLT,Int.reduceToNat,Int.reduceAdd,Int.reduceNeg,hA',n0,hg,hwk,e,Int.toNat_natCast,List.length_map,Bool.not_true,Bool.not_false,decide_true,decide_false,c2',c3',c4',c5',c6',c7',c8',c9',c10'])|(with_reducible exact Qaa _ _ (by kernel_rfl))|(with_reducible refine And.intro (Qaa _ _ (by kernel_rfl)) ?_))
 have c10':=eq_false c10
 by_cases c11:w.hz<w.lz
 ·have c11':=eq_true c11
  have e:Qau l=false:=hbad (by unfold WdOk;omega)
  repeat (first|(simp -implicitDefEqProofs only [go_sem,Nat.reduceAdd,Nat.reduceMul,Nat.reduceEqDiff,Nat.reduceLT,Nat.reduceLeDiff,reduceCtorEq,Int.reduceLE,Int.reduceLT,Int.reduceToNat,Int.reduceAdd,Int.reduceNeg,hA',n0,hg,hwk,e,Int.toNat_natCast,List.length_map,Bool.not_true,Bool.not_false,decide_true,decide_false,c2',c3',c4',c5',c6',c7',c8',c9',c10',c11'])|(with_reducible exact Qaa _ _ (by kernel_rfl))|(with_reducible refine And.intro (Qaa _ _ (by kernel_rfl)) ?_))
 have c11':=eq_false c11
 by_cases c12:w.uz< -5000
 ·have c12':=eq_true c12
  have e:Qau l=false:=hbad (by unfold WdOk;omega)
  repeat (first|(simp -implicitDefEqProofs only [go_sem,Nat.reduceAdd,Nat.reduceMul,Nat.reduceEqDiff,Nat.reduceLT,Nat.reduceLeDiff,reduceCtorEq,Int.reduceLE,Int.reduceLT,Int.reduceToNat,Int.reduceAdd,Int.reduceNeg,hA',n0,hg,hwk,e,Int.toNat_natCast,List.length_map,Bool.not_true,Bool.not_false,decide_true,decide_false,c2',c3',c4',c5',c6',c7',c8',c9',c10',c11',c12'])|(with_reducible exact Qaa _ _ (by kernel_rfl))|(with_reducible refine And.intro (Qaa _ _ (by kernel_rfl)) ?_))
 have c12':=eq_false c12
 by_cases c13:5000<w.uz
 ·have c13':=eq_true c13
  have e:Qau l=false:=hbad (by unfold WdOk;omega)
  repeat (first|(simp -implicitDefEqProofs only [go_sem,Nat.reduceAdd,Nat.reduceMul,Nat.reduceEqDiff,Nat.reduceLT,Nat.reduceLeDiff,reduceCtorEq,Int.reduceLE,Int.reduceLT,Int.reduceToNat,Int.reduceAdd,Int.reduceNeg,hA',n0,hg,hwk,e,Int.toNat_natCast,List.length_map,Bool.not_true,Bool.not_false,decide_true,decide_false,c2',c3',c4',c5',c6',c7',c8',c9',c10',c11',c12',c13'])|(with_reducible exact Qaa _ _ (by kernel_rfl))|(with_reducible refine And.intro (Qaa _ _ (by kernel_rfl)) ?_))
 have c13':=eq_false c13
 have e:=hok (Q1v (by unfold WdOk;omega))
 repeat (first|(simp -implicitDefEqProofs only [go_sem,Nat.reduceAdd,Nat.reduceMul,Nat.reduceEqDiff,Nat.reduceLT,Nat.reduceLeDiff,reduceCtorEq,Int.reduceLE,Int.reduceLT,Int.reduceToNat,Int.reduceAdd,Int.reduceNeg,hA',n0,hg,hwk,Int.toNat_natCast,List.length_map,Bool.not_true,Bool.not_false,decide_true,decide_false,c2',c3',c4',c5',c6',c7',c8',c9',c10',c11',c12',c13'])|(with_reducible exact Qaa _ _ (by kernel_rfl))|(with_reducible refine And.intro (Qaa _ _ (by kernel_rfl)) ?_))
 refine⟨⟨i+1,hA,e⟩,by simp only;omega,Qaj (θ:=[]) rfl ?_ trivial⟩
 simp [Qad,lkp,ren1,ren0,Qal,wsPV]
set_option maxHeartbeats 4000000 in
set_option maxRecDepth 100000 in
theorem Qdt (l:List Wd) (hl:l.length≤maxLen):Qag Tryz.prog 14 [wsPV l] (.bool (Qau l)):=by
 have hm:=Qds
 refine Qac (tb:=[]) 93 [.tmp 2] [0,2,3,4,8,89] mixed Tryz.func14 rfl (by kernel_rfl) (by kernel_rfl) (by kernel_rfl) (by kernel_rfl) ?_
 repeat (first|(simp -implicitDefEqProofs only [go_sem,Nat.reduceAdd,Nat.reduceMul,Nat.reduceEqDiff,Nat.reduceLT,Nat.reduceLeDiff,reduceCtorEq]))
 refine Qar mixed (fun i:{i:Nat // i≤l.length∧(l.take i).all vWd=true}=>St.of [(0,wsPV l),(3,.int .i64 (i.1:Int))] []) (fun i=>l.length-i.1) ⟨0,Nat.zero_le _,rfl⟩ ?_ ?_
 ·refine Qay ?_
  simp [Qad,lkp,ren1,ren0,Qal,wsPV]
 rintro⟨i,hi,hall⟩
 simp only
 by_cases hA:i<l.length
 case neg=>
  have hA':=ltF hA
  have et:l.take i=l:=List.take_of_length_le (by omega)
  rw [et]at hall
  by_cases h8:l.length≤8
  ·have h8':((l.length:Int)≤8)=True:=eq_true (by omega)
   have e:Qau l=true:=by simp [Qau,hall,h8]
   repeat (first|(simp -implicitDefEqProofs only [go_sem,Nat.reduceAdd,Nat.reduceMul,Nat.reduceEqDiff,Nat.reduceLT,Nat.reduceLeDiff,reduceCtorEq,hA',h8',e,List.length_map,decide_true,decide_false]))
  ·have h8':((l.length:Int)≤8)=False:=eq_false (by omega)
   have e:Qau l=false:=by simp [Qau,h8]
   repeat (first|(simp -implicitDefEqProofs only [go_sem,Nat.reduceAdd,Nat.reduceMul,Nat.reduceEqDiff,Nat.reduceLT,Nat.reduceLeDiff,reduceCtorEq,hA',h8',e,List.length_map,decide_true,decide_false]))
 have hA':=ltT hA
 have n0:=nnT i
 have hg:=Qie l i hA
 have hwk:=Qai (a:=i) (by omega)
 have hbad:=fun h=>Qoa (h:=hA) h
 have hok:=Q1w hA hall
 generalize l[i]=w at*
 have h0:=Qig w.lx w.ly w.lz
 have h1:=Qig w.hx w.hy w.hz
 have h8:=Qpl w.ux
 have h9:=Qpl w.uy
 have h10:=Qpl w.uz
 cases c0:ptB w.lx w.ly w.lz with
 |false=>
  rw [c0]at h0
  have c0:=Qif c0
  have e:Qau l=false:=hbad (by unfold WdOk;omega)
  repeat (first|(simp -implicitDefEqProofs only [go_sem,Nat.reduceAdd,Nat.reduceMul,Nat.reduceEqDiff,Nat.reduceLT,Nat.reduceLeDiff,reduceCtorEq,hA',n0,hg,hwk,e,Int.toNat_natCast,List.length_map,Bool.not_true,Bool.not_false,decide_true,decide_false])|((with_reducible refine Qab (h0) ?_ ?_ ?_);(with_reducible rfl);rfl)|((with_reducible refine Qab (h1) ?_ ?_ ?_);(with_reducible rfl);rfl)|((with_reducible refine Qab (h8) ?_ ?_ ?_);(with_reducible rfl);rfl)|((with_reducible refine Qab (h9) ?_ ?_ ?_);(with_reducible rfl);rfl)|((with_reducible refine Qab (h10) ?_ ?_ ?_);(with_reducible rfl);rfl))
 |true=>
 rw [c0]at h0
 have c0:=Qlc c0
 cases c1:ptB w.hx w.hy w.hz with
 |false=>
  rw [c1]at h1
  have c1:=Qif c1
  have e:Qau l=false:=hbad (by unfold WdOk;omega)
  repeat (first|(simp -implicitDefEqProofs only [go_sem,Nat.reduceAdd,Nat.reduceMul,Nat.reduceEqDiff,Nat.reduceLT,Nat.reduceLeDiff,reduceCtorEq,hA',n0,hg,hwk,e,Int.toNat_natCast,List.length_map,Bool.not_true,Bool.not_false,decide_true,decide_false])|((with_reducible refine Qab (h0) ?_ ?_ ?_);(with_reducible rfl);rfl)|((with_reducible refine Qab (h1) ?_ ?_ ?_);(with_reducible rfl);rfl)|((with_reducible refine Qab (h8) ?_ ?_ ?_);(with_reducible rfl);rfl)|((with_reducible refine Qab (h9) ?_ ?_ ?_);(with_reducible rfl);rfl)|((with_reducible refine Qab (h10) ?_ ?_ ?_);(with_reducible rfl);rfl))
 |true=>
 rw [c1]at h1
 have c1:=Qlc c1
 by_cases c2:w.hx<w.lx
 ·have c2':=eq_true c2
  have e:Qau l=false:=hbad (by unfold WdOk;omega)
  repeat (first|(simp -implicitDefEqProofs only [go_sem,Nat.reduceAdd,Nat.reduceMul,Nat.reduceEqDiff,Nat.reduceLT,Nat.reduceLeDiff,reduceCtorEq,hA',n0,hg,hwk,e,Int.toNat_natCast,List.length_map,Bool.not_true,Bool.not_false,decide_true,decide_false,c2'])|((with_reducible refine Qab (h0) ?_ ?_ ?_);(with_reducible rfl);rfl)|((with_reducible refine Qab (h1) ?_ ?_ ?_);(with_reducible rfl);rfl)|((with_reducible refine Qab (h8) ?_ ?_ ?_);(with_reducible rfl);rfl)|((with_reducible refine Qab (h9) ?_ ?_ ?_);(with_reducible rfl);rfl)|((with_reducible refine Qab (h10) ?_ ?_ ?_);(with_reducible rfl);rfl))
 have c2':=eq_false c2
 by_cases c3:w.hy<w.ly
 ·have c3':=eq_true c3
  have e:Qau l=false:=hbad (by unfold WdOk;omega)
  repeat (first|(simp -implicitDefEqProofs only [go_sem,Nat.reduceAdd,Nat.reduceMul,Nat.reduceEqDiff,Nat.reduceLT,Nat.reduceLeDiff,reduceCtorEq,hA',n0,hg,hwk,e,Int.toNat_natCast,List.length_map,Bool.not_true,Bool.not_false,decide_true,decide_false,c2',c3'])|((with_reducible refine Qab (h0) ?_ ?_ ?_);(with_reducible rfl);rfl)|((with_reducible refine Qab (h1) ?_ ?_ ?_);(with_reducible rfl);rfl)|((with_reducible refine Qab (h8) ?_ ?_ ?_);(with_reducible rfl);rfl)|((with_reducible refine Qab (h9) ?_ ?_ ?_);(with_reducible rfl);rfl)|((with_reducible refine Qab (h10) ?_ ?_ ?_);(with_reducible rfl);rfl))
 have c3':=eq_false c3
 by_cases c4:w.hz<w.lz
 ·have c4':=eq_true c4
  have e:Qau l=false:=hbad (by unfold WdOk;omega)
  repeat (first|(simp -implicitDefEqProofs only [go_sem,Nat.reduceAdd,Nat.reduceMul,Nat.reduceEqDiff,Nat.reduceLT,Nat.reduceLeDiff,reduceCtorEq,hA',n0,hg,hwk,e,Int.toNat_natCast,List.length_map,Bool.not_true,Bool.not_false,decide_true,decide_false,c2',c3',c4'])|((with_reducible refine Qab (h0) ?_ ?_ ?_);(with_reducible rfl);rfl)|((with_reducible refine Qab (h1) ?_ ?_ ?_);(with_reducible rfl);rfl)|((with_reducible refine Qab (h8) ?_ ?_ ?_);(with_reducible rfl);rfl)|((with_reducible refine Qab (h9) ?_ ?_ ?_);(with_reducible rfl);rfl)|((with_reducible refine Qab (h10) ?_ ?_ ?_);(with_reducible rfl);rfl))
 have c4':=eq_false c4
 by_cases c5:w.f<0
 ·have c5':=eq_true c5
  have e:Qau l=false:=hbad (by unfold WdOk;omega)
  repeat (first|(simp -implicitDefEqProofs only [go_sem,Nat.reduceAdd,Nat.reduceMul,Nat.reduceEqDiff,Nat.reduceLT,Nat.reduceLeDiff,reduceCtorEq,hA',n0,hg,hwk,e,Int.toNat_natCast,List.length_map,Bool.not_true,Bool.not_false,decide_true,decide_false,c2',c3',c4',c5'])|((with_reducible refine Qab (h0) ?_ ?_ ?_);(with_reducible rfl);rfl)|((with_reducible refine Qab (h1) ?_ ?_ ?_);(with_reducible rfl);rfl)|((with_reducible refine Qab (h8) ?_ ?_ ?_);(with_reducible rfl);rfl)|((with_reducible refine Qab (h9) ?_ ?_ ?_);(with_reducible rfl);rfl)|((with_reducible refine Qab (h10) ?_ ?_ ?_);(with_reducible rfl);rfl))
 have c5':=eq_false c5
 by_cases c6:w.t≤w.f
 ·have c6':=eq_true c6
  have e:Qau l=false:=hbad (by unfold WdOk;omega)
  repeat (first|(simp -implicitDefEqProofs only [go_sem,Nat.reduceAdd,Nat.reduceMul,Nat.reduceEqDiff,Nat.reduceLT,Nat.reduceLeDiff,reduceCtorEq,hA',n0,hg,hwk,e,Int.toNat_natCast,List.length_map,Bool.not_true,Bool.not_false,decide_true,decide_false,c2',c3',c4',c5',c6'])|((with_reducible refine Qab (h0) ?_ ?_ ?_);(with_reducible rfl);rfl)|((with_reducible refine Qab (h1) ?_ ?_ ?_);(with_reducible rfl);rfl)|((with_reducible refine Qab (h8) ?_ ?_ ?_);(with_reducible rfl);rfl)|((with_reducible refine Qab (h9) ?_ ?_ ?_);(with_reducible rfl);rfl)|((with_reducible refine Qab (h10) ?_ ?_ ?_);(with_reducible rfl);rfl))
 have c6':=eq_false c6
 by_cases c7:3600000<w.t
 ·have c7':=eq_true c7
  have e:Qau l=false:=hbad (by unfold WdOk;omega)
  repeat (first|(simp -implicitDefEqProofs only [go_sem,Nat.reduceAdd,Nat.reduceMul,Nat.reduceEqDiff,Nat.reduceLT,Nat.reduceLeDiff,reduceCtorEq,hA',n0,hg,hwk,e,Int.toNat_natCast,List.length_map,Bool.not_true,Bool.not_false,decide_true,decide_false,c2',c3',c4',c5',c6',c7'])|((with_reducible refine Qab (h0) ?_ ?_ ?_);(with_reducible rfl);rfl)|((with_reducible refine Qab (h1) ?_ ?_ ?_);(with_reducible rfl);rfl)|((with_reducible refine Qab (h8) ?_ ?_ ?_);(with_reducible rfl);rfl)|((with_reducible refine Qab (h9) ?_ ?_ ?_);(with_reducible rfl);rfl)|((with_reducible refine Qab (h10) ?_ ?_ ?_);(with_reducible rfl);rfl))
 have c7':=eq_false c7
 cases c8:uB w.ux with
 |false=>
  rw [c8]at h8
  have c8:=Qpi c8
  have e:Qau l=false:=hbad (by unfold WdOk;omega)
  repeat (first|(simp -implicitDefEqProofs only [go_sem,Nat.reduceAdd,Nat.reduceMul,Nat.reduceEqDiff,Nat.reduceLT,Nat.reduceLeDiff,reduceCtorEq,hA',n0,hg,hwk,e,Int.toNat_natCast,List.length_map,Bool.not_true,Bool.not_false,decide_true,decide_false,c2',c3',c4',c5',c6',c7'])|((with_reducible refine Qab (h0) ?_ ?_ ?_);(with_reducible rfl);rfl)|((with_reducible refine Qab (h1) ?_ ?_ ?_);(with_reducible rfl);rfl)|((with_reducible refine Qab (h8) ?_ ?_ ?_);(with_reducible rfl);rfl)|((with_reducible refine Qab (h9) ?_ ?_ ?_);(with_reducible rfl);rfl)|((with_reducible refine Qab (h10) ?_ ?_ ?_);(with_reducible rfl);rfl))
 |true=>
 rw [c8]at h8
 have c8:=Qtz c8
 cases c9:uB w.uy with
 |false=>
  rw [c9]at h9
  have c9:=Qpi c9
  have e:Qau l=false:=hbad (by unfold WdOk;omega)
  repeat (first|(simp -implicitDefEqProofs only [go_sem,Nat.reduceAdd,Nat.reduceMul,Nat.reduceEqDiff,Nat.reduceLT,Nat.reduceLeDiff,reduceCtorEq,hA',n0,hg,hwk,e,Int.toNat_natCast,List.length_map,Bool.not_true,Bool.not_false,decide_true,decide_false,c2',c3',c4',c5',c6',c7'])|((with_reducible refine Qab (h0) ?_ ?_ ?_);(with_reducible rfl);rfl)|((with_reducible refine Qab (h1) ?_ ?_ ?_);(with_reducible rfl);rfl)|((with_reducible refine Qab (h8) ?_ ?_ ?_);(with_reducible rfl);rfl)|((with_reducible refine Qab (h9) ?_ ?_ ?_);(with_reducible rfl);rfl)|((with_reducible refine Qab (h10) ?_ ?_ ?_);(with_reducible rfl);rfl))
 |true=>
 rw [c9]at h9
 have c9:=Qtz c9
 cases c10:uB w.uz with
 |false=>
  rw [c10]at h10
  have c10:=Qpi c10
  have e:Qau l=false:=hbad (by unfold WdOk;omega)
  repeat (first|(simp -implicitDefEqProofs only [go_sem,Nat.reduceAdd,Nat.reduceMul,Nat.reduceEqDiff,Nat.reduceLT,Nat.reduceLeDiff,reduceCtorEq,hA',n0,hg,hwk,e,Int.toNat_natCast,List.length_map,Bool.not_true,Bool.not_false,decide_true,decide_false,c2',c3',c4',c5',c6',c7'])|((with_reducible refine Qab (h0) ?_ ?_ ?_);(with_reducible rfl);rfl)|((with_reducible refine Qab (h1) ?_ ?_ ?_);(with_reducible rfl);rfl)|((with_reducible refine Qab (h8) ?_ ?_ ?_);(with_reducible rfl);rfl)|((with_reducible refine Qab (h9) ?_ ?_ ?_);(with_reducible rfl);rfl)|((with_reducible refine Qab (h10) ?_ ?_ ?_);(with_reducible rfl);rfl))
 |true=>
 rw [c10]at h10
 have c10:=Qtz c10
 have e:=hok (Q1v (by unfold WdOk;omega))
 repeat (first|(simp -implicitDefEqProofs only [go_sem,Nat.reduceAdd,Nat.reduceMul,Nat.reduceEqDiff,Nat.reduceLT,Nat.reduceLeDiff,reduceCtorEq,hA',n0,hg,hwk,Int.toNat_natCast,List.length_map,Bool.not_true,Bool.not_false,decide_true,decide_false,c2',c3',c4',c5',c6',c7'])|((with_reducible refine Qab (h0) ?_ ?_ ?_);(with_reducible rfl);rfl)|((with_reducible refine Qab (h1) ?_ ?_ ?_);(with_reducible rfl);rfl)|((with_reducible refine Qab (h8) ?_ ?_ ?_);(with_reducible rfl);rfl)|((with_reducible refine Qab (h9) ?_ ?_ ?_);(with_reducible rfl);rfl)|((with_reducible refine Qab (h10) ?_ ?_ ?_);(with_reducible rfl);rfl))
 refine⟨⟨i+1,hA,e⟩,by simp only;omega,Qay ?_⟩
 simp [Qad,lkp,ren1,ren0,Qal,wsPV]
end Go.Proofs.YtciddhkfbgkejaaGreatDoor
