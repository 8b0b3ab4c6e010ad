/-
  Dbw, HB2, HB3, HB4 (merged for the claim).
-/
import Derived.Test.YtciddhkfbgkejaaGreatDoorDbv
import Derived.Test.YtciddhkfbgkejaaGreatDoorHM2
set_option linter.unusedSimpArgs false
set_option linter.unusedVariables false
namespace Go.Dg
def rT (c:List Int) (i k:Nat):Rat:=fr (c.getD i 0*(i:Int)*(c.getD k 0*(k:Int))) ((i:Int)+(k:Int)-1)
def rsR (c:List Int) (i k:Nat):Rat:=qs (fun j=>rT c i (j+1)) k
def rsS (c:List Int) (i:Nat):Rat:=qs (fun j=>rsR c (j+1) (c.length-1)) i
def rsQ (c:List Int):Rat:=rsS c (c.length-1)
def wyI (c:List Int) (n:Nat):Int:=sm (fun j=>c.getD (j+1) 0) n
def wayR (c:List Int) (o:Int):Rat:=fr (wyI c (c.length-1)) o
def axR (q:Rat) (c:List Int) (o t b:Int):Rat:=q+fr 1000 t*(rsQ c*fr 1 (o*o))-fr (2*b) 1*wayR c o+fr (b*b) 1*fr t 1000
def drR (s:Sg) (x y z:Int):Rat:=axR (axR (axR (fr 0 1) s.x s.o (s.t-s.f) x) s.y s.o (s.t-s.f) y) s.z s.o (s.t-s.f) z
def baR (s:Sg) (B:Bat):Rat:=if 0<(wayR s.z s.o).num then fr (B.base*(s.t-s.f)) 1000+fr B.climb 100*wayR s.z s.o else fr (B.base*(s.t-s.f)) 1000
def Qxv (s:Sg) (B:Bat) (x y z:Int):Rat:=baR s B+fr B.drag 1000000*drR s x y z
theorem Zr9 (c:List Int) {o:Int} (ho:o≠0) (i k:Nat):sqT c o i k=rT c i k*fr 1 (o*o):=by
 have o0:(o:Rat)≠0:=by exact_mod_cast ho
 unfold sqT rT coQ ikQ fr
 simp only [Rat.intCast_mul]
 have e:((1:Int):Rat)=1:=rfl
 rw [e]
 generalize (((i:Int)+(k:Int)-1:Int):Rat)=D
 rw [Rat.div_def _ D,Rat.div_def _ D]
 generalize D⁻¹=E
 grind
theorem Zoz (c:List Int) {o:Int} (ho:o≠0):sqQ c o=rsQ c*fr 1 (o*o):=by
 unfold sqQ sqS rsQ rsS
 rw [←Q03]
 refine Qo9 _ fun i _=> ?_
 unfold sqR rsR
 rw [←Q03]
 exact Qo9 _ fun k _=>Zr9 c ho _ _
theorem Zo0 (f:Nat→Int) (o:Int): ∀n,qs (fun j=>((f j:Int):Rat)/(o:Rat)) n=fr (sm f n) o
 |0=>by unfold fr;simp [qs,sm,Rat.div_def]
 |n+1=>by
  simp only [qs,sm]
  rw [Zo0 f o n]
  unfold fr
  rw [Rat.intCast_add,Rat.div_def,Rat.div_def,Rat.div_def,Rat.add_mul]
theorem Zha (c:List Int) (o:Int):wayQ c o=wayR c o:=Zo0 _ _ _
theorem Zio (q:Rat) (c:List Int) {o:Int} (ho:o≠0) (t b:Int):axR q c o t b=axQ q c o t b:=by
 unfold axR axQ
 rw [Zoz c ho,←Zha,Qn3 (2*b),Qn3 (-2*b),Qn3 (b*b)]
 have e1:((-2*b:Int):Rat)= -2*(b:Rat):=by rw [Rat.intCast_mul];rfl
 have e2:((2*b:Int):Rat)=2*(b:Rat):=by rw [Rat.intCast_mul];rfl
 rw [e1,e2]
 grind
theorem Zip (s:Sg) (B:Bat) (ho:s.o≠0) (x y z:Int):Qxv s B x y z=Qnm s B x y z:=by
 unfold Qxv Qnm drR drQ
 rw [Zio _ _ ho,Zio _ _ ho,Zio _ _ ho]
 have e:baR s B=baQ s B:=by
  unfold baR baQ
  rw [←Zha]
  by_cases h:(wayQ s.z s.o).num<0
  ·rw [if_pos h,if_neg (by omega)]
  ·rw [if_neg h]
   by_cases h2:0<(wayQ s.z s.o).num
   ·rw [if_pos h2,Rat.mul_comm]
   ·rw [if_neg h2]
    have:wayQ s.z s.o=0:=Rat.num_eq_zero.1 (by omega)
    rw [this];grind
 rw [e,Rat.mul_comm]
theorem Qd7 {n d:Int} (h1:n.natAbs<2^64) (h2:d.natAbs<2^64) (hd:d≠0):fitQ 64 (fr n d):=Qh5 h1 h2 hd
def ok64 (c:List Int):Prop:= ∀i,(c.getD i 0).natAbs<2^64
theorem Qn4 {c:List Int} {o:Int} (hc:ok64 c) (ho:o.natAbs<2^64) (h0:o≠0) (i:Nat):fitQ 64 (coQ c o i):=Qh5 (hc i) ho h0
theorem Zhb {i k:Nat} (hi:1≤i) (hk:1≤k) (hi2:i≤6) (hk2:k≤6):fitQ 64 (ikQ i k):=by
 refine Qh5 ?_ ?_ (by omega)
 ·have:=Nat.mul_le_mul hi2 hk2
  rw [Int.natAbs_mul,Int.natAbs_natCast,Int.natAbs_natCast];omega
 ·omega
theorem Q07 {c:List Int} {o:Int} (hc:ok64 c) (ho:o.natAbs<2^64) (h0:o≠0) {i k:Nat} (hi:1≤i) (hk:1≤k) (hi2:i≤6) (hk2:k≤6):fitQ 192 (sqT c o i k):=
 Qb5 (Qb5 (Qn4 hc ho h0 i) (Qn4 hc ho h0 k)) (Zhb hi hk hi2 hk2)
theorem Q08 {c:List Int} {o:Int} (hc:ok64 c) (ho:o.natAbs<2^64) (h0:o≠0) {i k:Nat} (hi:1≤i) (hi2:i≤6) (hk2:k≤5):fitQ 966 (sqR c o i k):=
 (Qn2 k fun j hj=>Q07 hc ho h0 hi (by omega) hi2 (by omega)).mono (Nat.le_trans (Nat.add_le_add_right (Nat.mul_le_mul_right (192+1) hk2) 1) (by decide))
theorem Q09 {c:List Int} {o:Int} (hc:ok64 c) (ho:o.natAbs<2^64) (h0:o≠0) (hl:c.length≤6) {i:Nat} (hi:i≤5):fitQ 4836 (sqS c o i):=
 (Qn2 i fun j hj=>Q08 hc ho h0 (by omega) (by omega) (by omega)).mono (Nat.le_trans (Nat.add_le_add_right (Nat.mul_le_mul_right (966+1) hi) 1) (by decide))
theorem Qtk {c:List Int} {o:Int} (hc:ok64 c) (ho:o.natAbs<2^64) (h0:o≠0) {n:Nat} (hn:n≤5):fitQ 326 (wyS c o n):=
 (Qn2 n fun j _=>Qn4 hc ho h0 _).mono (Nat.le_trans (Nat.add_le_add_right (Nat.mul_le_mul_right (64+1) hn) 1) (by decide))
theorem Zhc {c:List Int} (hc:ok64 c) {i k:Nat} (hi:1≤i) (hk:1≤k) (hi2:i≤6) (hk2:k≤6):fitQ 134 (rT c i k):=by
 refine Qh5 ?_ ?_ (by omega)
 ·have h1:=hc i
  have h2:=hc k
  rw [Int.natAbs_mul,Int.natAbs_mul,Int.natAbs_mul,Int.natAbs_natCast,Int.natAbs_natCast]
  have e1:(c.getD i 0).natAbs*i<2^67:=Nat.lt_of_le_of_lt (Nat.mul_le_mul_left _ hi2) (by omega)
  have e2:(c.getD k 0).natAbs*k<2^67:=Nat.lt_of_le_of_lt (Nat.mul_le_mul_left _ hk2) (by omega)
  have:=Nat.mul_lt_mul'' e1 e2
  rwa [←Nat.pow_add]at this
 ·omega
theorem Q1a {c:List Int} (hc:ok64 c) {i k:Nat} (hi:1≤i) (hi2:i≤6) (hk2:k≤5):fitQ 676 (rsR c i k):=
 (Qn2 k fun j hj=>Zhc hc hi (by omega) hi2 (by omega)).mono (Nat.le_trans (Nat.add_le_add_right (Nat.mul_le_mul_right (134+1) hk2) 1) (by decide))
theorem Q1b {c:List Int} (hc:ok64 c) (hl:c.length≤6) {i:Nat} (hi:i≤5):fitQ 3386 (rsS c i):=
 (Qn2 i fun j hj=>Q1a hc (by omega) (by omega) (by omega)).mono (Nat.le_trans (Nat.add_le_add_right (Nat.mul_le_mul_right (676+1) hi) 1) (by decide))
theorem Qpb {c:List Int} (hc:ok64 c): ∀n,n≤5→(wyI c n).natAbs<2^(64+n)
 |0,_=>by show(0:Int).natAbs<_;exact Nat.two_pow_pos _
 |n+1,h=>by
  have h1:=Qpb hc n (by omega)
  have h2:=hc (n+1)
  have h3:(2:Nat)^64≤2^(64+n):=Nat.pow_le_pow_right (by decide) (by omega)
  show(wyI c n+c.getD (n+1) 0).natAbs<_
  have h4:=Int.natAbs_add_le (wyI c n) (c.getD (n+1) 0)
  have e:(2:Nat)^(64+(n+1))=2^(64+n)*2:=Nat.pow_succ ..
  rw [e]
  generalize 2^(64+n)=K at*
  omega
theorem Qvy {c:List Int} {o:Int} (hc:ok64 c) (ho:o.natAbs<2^64) (h0:o≠0) (hl:c.length≤6):fitQ 70 (wayR c o):=
 Qh5 (Nat.lt_of_lt_of_le (Qpb hc _ (by omega)) (Nat.pow_le_pow_right (by decide) (by omega))) (Nat.lt_of_lt_of_le ho (Nat.pow_le_pow_right (by decide) (by decide))) h0
end Go.Dg

namespace Go.Proofs.YtciddhkfbgkejaaGreatDoor
open Go.Vl Go.RowKit Go.Dg
theorem Qbc (x:Rat): ∃b1 s1 b2 s2,ratQ x= .agg [.bool b1,.str s1,.bool b2,.str s2]:=⟨_,_,_,_,rfl⟩
def zQ:PV:= .agg [.bool false,.str ⟨#[]⟩,.bool false,.str ⟨#[]⟩]
attribute [go_sem] zQ
theorem Qh9 (n d:Int) (h1:i64 n) (h2:i64 d) (h0:d≠0):Qad Tryz.prog 119 [.int .i64 n,.int .i64 d] (ratQ (fr n d)):=by
 have h:=Zsc n d h1.1 h1.2 h2.1 h2.2 h0
 have e0:(n:Rat)/(d:Rat)=fr n d:=rfl
 rw [e0]at h
 obtain⟨b1,s1,b2,s2,e⟩:=Qbc (fr n d)
 rw [e]at h ⊢
 refine Qac (tb:=[]) 14 [.cell 4 173] [0,1,4,5] mixed Tryz.func119 rfl (by kernel_rfl) (by kernel_rfl) (by kernel_rfl) (by kernel_rfl) ?_
 repeat (first|(simp -implicitDefEqProofs only [go_sem,Nat.reduceAdd,Nat.reduceMul,Nat.reduceEqDiff,Nat.reduceLT,Nat.reduceLeDiff,reduceCtorEq])|((with_reducible refine Qab (h) ?_ ?_ ?_);(with_reducible rfl);rfl))
theorem Qia {k l:Nat} {x y:Rat} (hx:fitQ k x) (hy:fitQ l y) (hk:k+l+1≤65536):Qad Tryz.prog 121 [ratQ x,ratQ y] (ratQ (x+y)):=by
 have h:=Zpb hx hy hk
 obtain⟨b1,s1,b2,s2,e⟩:=Qbc (x+y)
 obtain⟨c1,t1,c2,t2,e2⟩:=Qbc x
 obtain⟨d1,u1,d2,u2,e3⟩:=Qbc y
 rw [e,e2,e3]at h
 rw [e,e2,e3]
 refine Qac (tb:=[]) 14 [.cell 4 173] [0,1,2,3,4,5] mixed Tryz.func121 rfl (by kernel_rfl) (by kernel_rfl) (by kernel_rfl) (by kernel_rfl) ?_
 repeat (first|(simp -implicitDefEqProofs only [go_sem,Nat.reduceAdd,Nat.reduceMul,Nat.reduceEqDiff,Nat.reduceLT,Nat.reduceLeDiff,reduceCtorEq])|((with_reducible refine Qab (h) ?_ ?_ ?_);(with_reducible rfl);rfl))
def prQ (x:Rat) (l:List Rat) (k:Nat):Rat:=(l.take k).foldl (· * ·) x
def raB (x:Rat):Box:={els:=[ratQ x],esz:=4,ety:=173,fro:=0,live:=true,arr:=false}
theorem Q2g (x:Rat) (l:List Rat) (hl:l.length≤100) (hm: ∀k (h:k<l.length),Qad Tryz.prog 165 [ratQ (prQ x l k),ratQ l[k]] (.tup [ratQ (prQ x l (k+1)),.int .i64 0])):
  Qad Tryz.prog 122 [ratQ x,.slc (l.map ratQ)] (ratQ (prQ x l l.length)):=by
 obtain⟨b1,s1,b2,s2,e⟩:=Qbc x
 have e0:prQ x l 0=x:=rfl
 rw [e]
 refine Qac (tb:=[]) 24 [.cell 4 173] [0,1,2,4,6,7,9,10,11,12] mixed Tryz.func122 rfl (by kernel_rfl) (by kernel_rfl) (by kernel_rfl) (by kernel_rfl) ?_
 repeat (first|(simp -implicitDefEqProofs only [go_sem,Nat.reduceAdd,Nat.reduceMul,Nat.reduceEqDiff,Nat.reduceLT,Nat.reduceLeDiff,reduceCtorEq]))
 rw [←e]
 refine Qar mixed (fun k:{k:Nat // k≤l.length}=>St.of [(2,.bp 0 4 0 0),(4,.bp 1 4 0 0),(9,.slc (l.map ratQ)),(10,.int .i64 (l.length:Int)),(11,.int .i64 (k.1:Int))] [(0,raB (prQ x l k.1)),(1,{els:=[zQ],esz:=4,ety:=173,fro:=0,live:=true,arr:=false})]) (fun k=>l.length-k.1) ⟨0,Nat.zero_le _⟩ ?_ ?_
 ·refine Qak (θ:=[(0,0),(1,1)]) rfl ?_ ?_
  ·simp [Qaf,lkp,ren1,ren0,Qap]
  ·simp only [e0,raB]
   rw [e]
   exact⟨⟨rfl,rfl,rfl,rfl,rfl,.inr ⟨rfl,_,_,rfl,rfl,rfl,rfl⟩⟩,⟨rfl,rfl,rfl,rfl,rfl,.inr ⟨rfl,_,_,rfl,rfl,rfl,rfl⟩⟩,trivial⟩
 ·rintro⟨k,hk⟩
  simp only [raB]
  obtain⟨c1,t1,c2,t2,e2⟩:=Qbc (prQ x l k)
  by_cases hA:k<l.length
  ·have hA':=ltT hA
   have n0:=nnT k
   have hwk:=Qaj (a:=k) (by omega)
   have hM:=hm k hA
   obtain⟨d1,u1,d2,u2,e3⟩:=Qbc (prQ x l (k+1))
   obtain⟨f1,v1,f2,v2,e4⟩:=Qbc l[k]
   have hg:(l.map ratQ)[k]? =some (.agg [.bool f1,.str v1,.bool f2,.str v2]):=by rw [List.getElem?_map,List.getElem?_eq_getElem hA,Option.map_some,e4]
   rw [e2,e3,e4]at hM
   rw [e2]
   repeat (first|(simp -implicitDefEqProofs only [go_sem,Nat.reduceAdd,Nat.reduceMul,Nat.reduceEqDiff,Nat.reduceLT,Nat.reduceLeDiff,reduceCtorEq,hA',n0,hwk,hg,Int.toNat_natCast,List.length_map])|((with_reducible refine Qab (hM) ?_ ?_ ?_);(with_reducible rfl);rfl))
   refine⟨⟨k+1,hA⟩,by simp only;omega,Qak (θ:=[(0,0),(1,1)]) rfl ?_ ?_⟩
   ·simp [Qaf,lkp,ren1,ren0,Qap]
   ·simp only
    rw [e3]
    exact⟨⟨rfl,rfl,rfl,rfl,rfl,.inr ⟨rfl,_,_,rfl,rfl,rfl,rfl⟩⟩,⟨rfl,rfl,rfl,rfl,rfl,.inr ⟨rfl,_,_,rfl,rfl,rfl,rfl⟩⟩,trivial⟩
  ·have hA':=ltF hA
   obtain rfl:k=l.length:=by omega
   rw [e2]
   repeat (first|(simp -implicitDefEqProofs only [go_sem,Nat.reduceAdd,Nat.reduceMul,Nat.reduceEqDiff,Nat.reduceLT,Nat.reduceLeDiff,reduceCtorEq,hA',List.length_map]))
theorem Qhc {k l:Nat} {x y:Rat} (hx:fitQ k x) (hy:fitQ l y) (hk:k+l≤65536):Qad Tryz.prog 122 [ratQ x,.slc [ratQ y]] (ratQ (x*y)):=by
 have h:=Q2g x [y] (by simp) (fun i hi=>by
  obtain rfl:i=0:=by simp at hi;omega
  exact Q2d hx hy hk)
 exact h
theorem Q97 {k l m:Nat} {x y z:Rat} (hx:fitQ k x) (hy:fitQ l y) (hz:fitQ m z) (hk:k+l+m≤65536):Qad Tryz.prog 122 [ratQ x,.slc [ratQ y,ratQ z]] (ratQ (x*y*z)):=by
 have h:=Q2g x [y,z] (by simp) (fun i hi=>by
  rcases(show i=0∨i=1 by simp at hi;omega)with rfl|rfl
  ·exact Q2d hx hy (by omega)
  ·exact Q2d (Qb5 hx hy) hz (by omega))
 exact h
theorem Zpc {c:List Int} {k:Nat} (h:k+1<c.length):((c.map (PV.int .i64)).drop 1)[k]? =some (.int .i64 (c.getD (k+1) 0)):=by
 rw [List.getElem?_drop,List.getElem?_map,List.getElem?_eq_getElem (by omega),List.getD_eq_getElem?_getD,List.getElem?_eq_getElem h]
 simp [Nat.add_comm]
set_option maxHeartbeats 1000000 in
theorem Zhl (c:List Int) (o:Int) (hc: ∀x∈c,i64 x) (h1:1≤c.length) (h6:c.length≤6) (ho:i64 o) (h0:o≠0) (hk:ok64 c):Qad Tryz.prog 120 [.slc (c.map (PV.int .i64)),.int .i64 o] (ratQ (wayQ c o)):=by
 have hz:=Qh9 0 1 (by unfold i64;omega) (by unfold i64;omega) (by decide)
 have e0:fr 0 1=wyS c o 0:=(by decide+kernel:fr 0 1=0)
 rw [e0]at hz
 obtain⟨b1,s1,b2,s2,e⟩:=Qbc (wyS c o 0)
 rw [e]at hz
 have l1:((1:Int)≤(c.length:Int))=True:=eq_true (by omega)
 have l2:(1≤c.length)=True:=eq_true h1
 have l3:((c.map (PV.int .i64)).drop 1).take (c.length-1)=(c.map (PV.int .i64)).drop 1:=List.take_of_length_le (by simp)
 have l5:((c.map (PV.int .i64)).all fun x=>x.cells.length==1)=true:=by rw [List.all_map,List.all_eq_true];intro _ _;rfl
 have l6:(c.map (PV.int .i64)).take c.length=c.map (PV.int .i64):=List.take_of_length_le (by simp)
 have l4:((c.map (PV.int .i64)).drop 1).length=c.length-1:=by simp
 have oa:o.natAbs<2^64:=Qa1 ho
 refine Qac (tb:=[]) 23 [.cell 4 173] [0,1,4,5,7,10,11,12,13] mixed Tryz.func120 rfl (by kernel_rfl) (by kernel_rfl) (by kernel_rfl) (by kernel_rfl) ?_
 repeat (first|(simp -implicitDefEqProofs only [go_sem,Nat.reduceAdd,Nat.reduceMul,Nat.reduceEqDiff,Nat.reduceLT,Nat.reduceLeDiff,reduceCtorEq,Int.reduceLE,Int.reduceToNat,l1,l2,l3,l4,l5,l6,List.length_map,Int.toNat_natCast])|((with_reducible refine Qab (hz) ?_ ?_ ?_);(with_reducible rfl);rfl)|(with_reducible exact Qaa _ _ (by kernel_rfl))|(with_reducible refine And.intro (Qaa _ _ (by kernel_rfl)) ?_))
 rw [←e]
 refine Qar mixed (fun k:{k:Nat // k≤c.length-1}=>St.of [(1,.int .i64 o),(4,.bp 0 4 0 0),(5,.bp 101 4 0 0),(10,.slc ((c.map (PV.int .i64)).drop 1)),(11,.int .i64 ((c.length-1:Nat):Int)),(12,.int .i64 (k.1:Int))] [(0,{els:=[zQ],esz:=4,ety:=173,fro:=0,live:=true,arr:=false}),(101,raB (wyS c o k.1))]) (fun k=>c.length-1-k.1) ⟨0,Nat.zero_le _⟩ ?_ ?_
 ·refine Qak (θ:=[(0,0),(101,101)]) rfl ?_ ?_
  ·simp [Qaf,lkp,ren1,ren0,Qap]
  ·simp only [raB]
   rw [e]
   exact⟨⟨rfl,rfl,rfl,rfl,rfl,.inr ⟨rfl,_,_,rfl,rfl,rfl,rfl⟩⟩,⟨rfl,rfl,rfl,rfl,rfl,.inr ⟨rfl,_,_,rfl,rfl,rfl,rfl⟩⟩,trivial⟩
 ·rintro⟨k,hk2⟩
  simp only [raB]
  obtain⟨c1,t1,c2,t2,e2⟩:=Qbc (wyS c o k)
  by_cases hA:k<c.length-1
  ·have hA':=ltT hA
   have n0:=nnT k
   have hwk:=Qaj (a:=k) (by omega)
   have hg:=Zpc (c:=c) (k:=k) (by omega)
   have hci:i64 (c.getD (k+1) 0):=by
    rw [List.getD_eq_getElem?_getD,List.getElem?_eq_getElem (by omega)];exact hc _ (List.getElem_mem _)
   have f1:=Qh9 (c.getD (k+1) 0) o hci ho h0
   have e5:fr (c.getD (k+1) 0) o=coQ c o (k+1):=rfl
   rw [e5]at f1
   have f2:=Qia (Qtk hk oa h0 (n:=k) (by omega)) (Qn4 hk oa h0 (k+1)) (by decide)
   have e6:wyS c o k+coQ c o (k+1)=wyS c o (k+1):=rfl
   rw [e6]at f2
   obtain⟨d1,u1,d2,u2,e3⟩:=Qbc (wyS c o (k+1))
   obtain⟨g1,v1,g2,v2,e4⟩:=Qbc (coQ c o (k+1))
   rw [e4]at f1
   rw [e2,e3,e4]at f2
   rw [e2]
   repeat (first|(simp -implicitDefEqProofs only [go_sem,Nat.reduceAdd,Nat.reduceMul,Nat.reduceEqDiff,Nat.reduceLT,Nat.reduceLeDiff,reduceCtorEq,hA',n0,hwk,hg,Int.toNat_natCast])|((with_reducible refine Qab (f1) ?_ ?_ ?_);(with_reducible rfl);rfl)|((with_reducible refine Qab (f2) ?_ ?_ ?_);(with_reducible rfl);rfl)|(with_reducible exact Qaa _ _ (by kernel_rfl))|(with_reducible refine And.intro (Qaa _ _ (by kernel_rfl)) ?_))
   refine⟨⟨k+1,hA⟩,by simp only;omega,Qak (θ:=[(0,0),(101,101)]) rfl ?_ ?_⟩
   ·simp [Qaf,lkp,ren1,ren0,Qap]
   ·simp only
    rw [e3]
    exact⟨⟨rfl,rfl,rfl,rfl,rfl,.inr ⟨rfl,_,_,rfl,rfl,rfl,rfl⟩⟩,⟨rfl,rfl,rfl,rfl,rfl,.inr ⟨rfl,_,_,rfl,rfl,rfl,rfl⟩⟩,trivial⟩
  ·have hA':=ltF hA
   obtain rfl:k=c.length-1:=by omega
   have e7:wayQ c o=wyS c o (c.length-1):=rfl
   rw [e7,e2]
   repeat (first|(simp -implicitDefEqProofs only [go_sem,Nat.reduceAdd,Nat.reduceMul,Nat.reduceEqDiff,Nat.reduceLT,Nat.reduceLeDiff,reduceCtorEq,hA'])|(with_reducible exact Qaa _ _ (by kernel_rfl))|(with_reducible refine And.intro (Qaa _ _ (by kernel_rfl)) ?_))
end Go.Proofs.YtciddhkfbgkejaaGreatDoor

namespace Go.Proofs.YtciddhkfbgkejaaGreatDoor
open Go.Vl Go.RowKit Go.Dg
theorem Qgr {c:List Int} {k:Nat} (h:k<c.length):(c.map (PV.int .i64))[k]? =some (.int .i64 (c.getD k 0)):=by
 rw [List.getElem?_map,List.getElem?_eq_getElem h,List.getD_eq_getElem?_getD,List.getElem?_eq_getElem h];rfl
theorem Qjx {c:List Int} (hc: ∀x∈c,i64 x) {k:Nat} (h:k<c.length):i64 (c.getD k 0):=by
 rw [List.getD_eq_getElem?_getD,List.getElem?_eq_getElem h];exact hc _ (List.getElem_mem _)
theorem Zsd (i k:Nat):fr (((i+1:Nat):Int)*((k+1:Nat):Int)) (((i+1+(k+1)-1:Nat)):Int)=ikQ (i+1) (k+1):=by
 unfold fr ikQ
 have:(((i+1+(k+1)-1:Nat)):Int)=((i+1:Nat):Int)+((k+1:Nat):Int)-1:=by omega
 rw [this]
set_option maxHeartbeats 4000000 in
theorem Zse (c:List Int) (o:Int) (hc: ∀x∈c,i64 x) (h1:1≤c.length) (h6:c.length≤6) (ho:i64 o) (h0:o≠0) (hk:ok64 c):Qad Tryz.prog 123 [.slc (c.map (PV.int .i64)),.int .i64 o] (ratQ (sqQ c o)):=by
 have hz:=Qh9 0 1 (by unfold i64;omega) (by unfold i64;omega) (by decide)
 have e0:fr 0 1=sqS c o 0:=(by decide+kernel:fr 0 1=0)
 rw [e0]at hz
 obtain⟨b1,s1,b2,s2,e⟩:=Qbc (sqS c o 0)
 rw [e]at hz
 have oa:o.natAbs<2^64:=Qa1 ho
 refine Qac (tb:=[]) 46 [.cell 4 173] [0,1,4,5,6,7,12,18] mixed Tryz.func123 rfl (by kernel_rfl) (by kernel_rfl) (by kernel_rfl) (by kernel_rfl) ?_
 repeat (first|(simp -implicitDefEqProofs only [go_sem,Nat.reduceAdd,Nat.reduceMul,Nat.reduceEqDiff,Nat.reduceLT,Nat.reduceLeDiff,reduceCtorEq])|((with_reducible refine Qab (hz) ?_ ?_ ?_);(with_reducible rfl);rfl)|(with_reducible exact Qaa _ _ (by kernel_rfl))|(with_reducible refine And.intro (Qaa _ _ (by kernel_rfl)) ?_))
 rw [←e]
 refine Qar mixed (fun i:{i:Nat // i≤c.length-1}=>St.of [(0,.slc (c.map (PV.int .i64))),(1,.int .i64 o),(4,.bp 0 4 0 0),(5,.bp 101 4 0 0),(6,.int .i64 ((i.1+1:Nat):Int))] [(0,{els:=[zQ],esz:=4,ety:=173,fro:=0,live:=true,arr:=false}),(101,raB (sqS c o i.1))]) (fun i=>c.length-1-i.1) ⟨0,Nat.zero_le _⟩ ?_ ?_
 ·refine Qak (θ:=[(0,0),(101,101)]) rfl ?_ ?_
  ·simp [Qaf,lkp,ren1,ren0,Qap]
  ·simp only [raB]
   rw [e]
   exact⟨⟨rfl,rfl,rfl,rfl,rfl,.inr ⟨rfl,_,_,rfl,rfl,rfl,rfl⟩⟩,⟨rfl,rfl,rfl,rfl,rfl,.inr ⟨rfl,_,_,rfl,rfl,rfl,rfl⟩⟩,trivial⟩
 ·rintro⟨i,hi⟩
  simp only
  by_cases hA:i+1<c.length
  ·have hA':=ltT hA
   have n0:=nnT (i+1)
   have hwk:=Qaj (a:=i+1) (by omega)
   have hg:=Qgr hA
   have f1:=Qh9 (c.getD (i+1) 0) o (Qjx hc hA) ho h0
   have e1:fr (c.getD (i+1) 0) o=coQ c o (i+1):=rfl
   rw [e1]at f1
   obtain⟨x1,x2,x3,x4,ex⟩:=Qbc (coQ c o (i+1))
   rw [ex]at f1
   repeat (first|(simp -implicitDefEqProofs only [go_sem,Nat.reduceAdd,Nat.reduceMul,Nat.reduceEqDiff,Nat.reduceLT,Nat.reduceLeDiff,reduceCtorEq,hA',List.length_map])|(with_reducible exact Qaa _ _ (by kernel_rfl))|(with_reducible refine And.intro (Qaa _ _ (by kernel_rfl)) ?_))
   refine Qar mixed (fun k:{k:Nat // k≤c.length-1}=>St.of [(0,.slc (c.map (PV.int .i64))),(1,.int .i64 o),(4,.bp 0 4 0 0),(5,.bp 101 4 0 0),(6,.int .i64 ((i+1:Nat):Int)),(7,.int .i64 ((k.1+1:Nat):Int))] [(0,{els:=[zQ],esz:=4,ety:=173,fro:=0,live:=true,arr:=false}),(101,raB (sqS c o i+sqR c o (i+1) k.1))]) (fun k=>c.length-1-k.1) ⟨0,Nat.zero_le _⟩ ?_ ?_
   ·refine Qak (θ:=[(0,0),(101,101)]) rfl ?_ ?_
    ·simp [Qaf,lkp,ren1,ren0,Qap]
    ·have e2:sqS c o i+sqR c o (i+1) 0=sqS c o i:=Rat.add_zero _
     simp only [raB,e2]
     exact⟨⟨rfl,rfl,rfl,rfl,rfl,.inr ⟨rfl,_,_,rfl,rfl,rfl,rfl⟩⟩,⟨rfl,rfl,rfl,rfl,rfl,.inr ⟨rfl,_,_,rfl,rfl,rfl,rfl⟩⟩,trivial⟩
   ·rintro⟨k,hk2⟩
    simp only [raB]
    by_cases hB:k+1<c.length
    ·have hB':=ltT hB
     have n1:=nnT (k+1)
     have hwk2:=Qaj (a:=k+1) (by omega)
     have hg2:=Qgr hB
     have f2:=Qh9 (c.getD (k+1) 0) o (Qjx hc hB) ho h0
     have e2:fr (c.getD (k+1) 0) o=coQ c o (k+1):=rfl
     rw [e2]at f2
     have hmul:((i+1:Nat):Int)*((k+1:Nat):Int)≤5*5:=by
      have:=Nat.mul_le_mul (show i+1≤5 by omega) (show k+1≤5 by omega)
      omega
     have hmul0:0≤((i+1:Nat):Int)*((k+1:Nat):Int):=Int.mul_nonneg (by omega) (by omega)
     have f3:=Qh9 (((i+1:Nat):Int)*((k+1:Nat):Int)) ((i+1+(k+1)-1:Nat):Int) (by unfold i64;omega) (by unfold i64;omega) (by omega)
     rw [Zsd]at f3
     have w1:IntKind.i64.wrap (((i+1:Nat):Int)*((k+1:Nat):Int))=((i+1:Nat):Int)*((k+1:Nat):Int):=Qah (by omega) (by omega)
     have w2:IntKind.i64.wrap (((i+1:Nat):Int)+((k+1:Nat):Int))=((i+1+(k+1):Nat):Int):=by rw [Qah (by omega) (by omega)];omega
     have w3:IntKind.i64.wrap (((i+1+(k+1):Nat):Int)-1)=((i+1+(k+1)-1:Nat):Int):=by rw [Qah (by omega) (by omega)];omega
     have t1:=Qn4 hk oa h0 (i+1)
     have t2:=Qn4 hk oa h0 (k+1)
     have t3:=Zhb (i:=i+1) (k:=k+1) (by omega) (by omega) (by omega) (by omega)
     have f4:=Q97 t1 t2 t3 (by decide)
     have e4:coQ c o (i+1)*coQ c o (k+1)*ikQ (i+1) (k+1)=sqT c o (i+1) (k+1):=rfl
     rw [e4]at f4
     have t4:=Q07 hk oa h0 (i:=i+1) (k:=k+1) (by omega) (by omega) (by omega) (by omega)
     have t5:=Qdk (Q09 hk oa h0 h6 (i:=i) (by omega)) (Q08 hk oa h0 (i:=i+1) (k:=k) (by omega) (by omega) (by omega))
     have f5:=Qia t5 t4 (by decide)
     have e5:sqS c o i+sqR c o (i+1) k+sqT c o (i+1) (k+1)=sqS c o i+sqR c o (i+1) (k+1):=by rw [Rat.add_assoc];rfl
     rw [e5]at f5
     obtain⟨y1,y2,y3,y4,ey⟩:=Qbc (coQ c o (k+1))
     obtain⟨z1,z2,z3,z4,ez⟩:=Qbc (ikQ (i+1) (k+1))
     obtain⟨v1,v2,v3,v4,ev⟩:=Qbc (sqT c o (i+1) (k+1))
     obtain⟨p1,p2,p3,p4,ep⟩:=Qbc (sqS c o i+sqR c o (i+1) k)
     obtain⟨q1,q2,q3,q4,eq⟩:=Qbc (sqS c o i+sqR c o (i+1) (k+1))
     rw [ey]at f2
     rw [ez]at f3
     rw [ex,ey,ez,ev]at f4
     rw [ep,ev,eq]at f5
     rw [ep]
     repeat (first|(simp -implicitDefEqProofs only [go_sem,Nat.reduceAdd,Nat.reduceMul,Nat.reduceEqDiff,Nat.reduceLT,Nat.reduceLeDiff,reduceIte,reduceCtorEq,hB',n0,n1,hwk2,hg,hg2,w1,w2,w3,Int.toNat_natCast,List.length_map])|((with_reducible refine Qab (f1) ?_ ?_ ?_);(with_reducible rfl);rfl)|((with_reducible refine Qab (f2) ?_ ?_ ?_);(with_reducible rfl);rfl)|((with_reducible refine Qab (f3) ?_ ?_ ?_);(with_reducible rfl);rfl)|((with_reducible refine Qab (f4) ?_ ?_ ?_);(with_reducible rfl);rfl)|((with_reducible refine Qab (f5) ?_ ?_ ?_);(with_reducible rfl);rfl)|(with_reducible exact Qaa _ _ (by kernel_rfl))|(with_reducible refine And.intro (Qaa _ _ (by kernel_rfl)) ?_))
     refine⟨⟨k+1,by omega⟩,by simp only;omega,Qak (θ:=[(0,0),(101,101)]) rfl ?_ ?_⟩
     ·simp [Qaf,lkp,ren1,ren0,Qap]
     ·simp only
      rw [eq]
      exact⟨⟨rfl,rfl,rfl,rfl,rfl,.inr ⟨rfl,_,_,rfl,rfl,rfl,rfl⟩⟩,⟨rfl,rfl,rfl,rfl,rfl,.inr ⟨rfl,_,_,rfl,rfl,rfl,rfl⟩⟩,trivial⟩
    ·have hB':=ltF hB
     obtain rfl:k=c.length-1:=by omega
     have e2:sqS c o i+sqR c o (i+1) (c.length-1)=sqS c o (i+1):=rfl
     obtain⟨p1,p2,p3,p4,ep⟩:=Qbc (sqS c o (i+1))
     rw [e2,ep]
     repeat (first|(simp -implicitDefEqProofs only [go_sem,Nat.reduceAdd,Nat.reduceMul,Nat.reduceEqDiff,Nat.reduceLT,Nat.reduceLeDiff,reduceCtorEq,hB',hwk,List.length_map])|(with_reducible exact Qaa _ _ (by kernel_rfl))|(with_reducible refine And.intro (Qaa _ _ (by kernel_rfl)) ?_))
     refine⟨⟨i+1,by omega⟩,by simp only;omega,Qak (θ:=[(0,0),(101,101)]) rfl ?_ ?_⟩
     ·simp [Qaf,lkp,ren1,ren0,Qap]
     ·simp only [raB]
      rw [ep]
      exact⟨⟨rfl,rfl,rfl,rfl,rfl,.inr ⟨rfl,_,_,rfl,rfl,rfl,rfl⟩⟩,⟨rfl,rfl,rfl,rfl,rfl,.inr ⟨rfl,_,_,rfl,rfl,rfl,rfl⟩⟩,trivial⟩
  ·have hA':=ltF hA
   obtain rfl:i=c.length-1:=by omega
   have e2:sqQ c o=sqS c o (c.length-1):=rfl
   obtain⟨p1,p2,p3,p4,ep⟩:=Qbc (sqS c o (c.length-1))
   rw [e2]
   simp only [raB]
   rw [ep]
   repeat (first|(simp -implicitDefEqProofs only [go_sem,Nat.reduceAdd,Nat.reduceMul,Nat.reduceEqDiff,Nat.reduceLT,Nat.reduceLeDiff,reduceCtorEq,hA',List.length_map])|(with_reducible exact Qaa _ _ (by kernel_rfl))|(with_reducible refine And.intro (Qaa _ _ (by kernel_rfl)) ?_))
theorem Zsf:fr (-1) 1= -1:=by decide+kernel
theorem up_v {k:Nat} {x:Rat} (hx:fitQ k x) (hk:k≤60000) (h1:0≤upQ x) (h2:upQ x≤9000000000000000000):Qad Tryz.prog 124 [ratQ x] (.tup [.int .i64 (upQ x),.bool (decide (upQ x≤1125899906842624))]):=by
 have f1:=Qh9 (-1) 1 (by unfold i64;omega) (by unfold i64;omega) (by decide)
 rw [Zsf]at f1
 have hm1:fitQ 1 (-1:Rat):=by unfold fitQ;decide+kernel
 have f2:=Qhc hx hm1 (by omega)
 have e:x*(-1:Rat)= -x:=by rw [Rat.mul_neg,Rat.mul_one]
 rw [e]at f2
 have hnx:fitQ (k+1) (-x):=by rw [←e];exact Qb5 hx hm1
 have f3:=Q93 hnx (by omega)
 have eu:(-x).num/((-x).den:Int)= -upQ x:=by unfold upQ;omega
 rw [eu]at f3
 have f4:=Qwq (x:= -upQ x) (by
   have:(-upQ x).natAbs<2^64:=by omega
   exact Qa4 this (by decide))
 unfold Qfm at f4
 rw [if_pos (by omega)]at f4
 have w1:IntKind.i64.wrap (0- -upQ x)=upQ x:=by rw [Qah (by omega) (by omega)];omega
 obtain⟨a1,a2,a3,a4,ea⟩:=Qbc (-1)
 obtain⟨b1,b2,b3,b4,eb⟩:=Qbc x
 obtain⟨c1,c2,c3,c4,ec⟩:=Qbc (-x)
 obtain⟨d1,d2,ed⟩: ∃d1 d2,wPV (-upQ x)= .agg [.bool d1,.str d2]:=⟨_,_,rfl⟩
 rw [ea]at f1
 rw [ea,eb,ec]at f2
 rw [ec,ed]at f3
 rw [ed]at f4
 rw [eb]
 generalize upQ x=U at*
 refine Qac (tb:=[]) 32 [.tmp 2,.tmp 3] [0,1,2,3,4,5,7,8] mixed Tryz.func124 rfl (by kernel_rfl) (by kernel_rfl) (by kernel_rfl) (by kernel_rfl) ?_
 repeat (first|(simp -implicitDefEqProofs only [go_sem,Nat.reduceAdd,Nat.reduceMul,Nat.reduceEqDiff,Nat.reduceLT,Nat.reduceLeDiff,reduceIte,reduceCtorEq,Int.reduceNeg,w1])|((with_reducible refine Qab (f1) ?_ ?_ ?_);(with_reducible rfl);rfl)|((with_reducible refine Qab (f2) ?_ ?_ ?_);(with_reducible rfl);rfl)|((with_reducible refine Qab (f3) ?_ ?_ ?_);(with_reducible rfl);rfl)|((with_reducible refine Qab (f4) ?_ ?_ ?_);(with_reducible rfl);rfl)|(with_reducible exact Qaa _ _ (by kernel_rfl))|(with_reducible refine And.intro (Qaa _ _ (by kernel_rfl)) ?_))
end Go.Proofs.YtciddhkfbgkejaaGreatDoor

namespace Go.Proofs.YtciddhkfbgkejaaGreatDoor
open Go.Vl Go.RowKit Go.Dg
def baPV (B:Bat):PV:= .agg [.int .i64 B.base,.int .i64 B.climb,.int .i64 B.drag,.int .i64 B.cap,.int .i64 B.res]
attribute [go_sem] baPV
structure okBat (B:Bat):Prop where
 base:i64 B.base
 climb:i64 B.climb
 drag:i64 B.drag
 cap:i64 B.cap
 res:i64 B.res
theorem Qjy {c:List Int} (h: ∀x∈c,i64 x):ok64 c:=fun i=>by
 by_cases hi:i<c.length
 ·exact Qa1 (Qjx h hi)
 ·rw [List.getD_eq_getElem?_getD,List.getElem?_eq_none (by omega)];decide
theorem Qhd {c:List Int} {o t b:Int} {k:Nat} {D:Rat} (hD:fitQ k D) (hk:k≤20000) (hc: ∀x∈c,i64 x) (h1:1≤c.length) (h6:c.length≤6) (ho:i64 o) (h0:o≠0) (ht:0<t) (ht2:t≤3600000) (hb: -40000≤b∧b≤40000):
  ∃q1 q2 q3 q4 q5 q6 q7 q8 q9 q10 q11:Rat,
   Qad Tryz.prog 123 [.slc (c.map (PV.int .i64)),.int .i64 o] (ratQ q1)∧Qad Tryz.prog 119 [.int .i64 1000,.int .i64 t] (ratQ q2)∧Qad Tryz.prog 122 [ratQ q1,.slc [ratQ q2]] (ratQ q3)∧Qad Tryz.prog 121 [ratQ D,ratQ q3] (ratQ q4)∧
   Qad Tryz.prog 120 [.slc (c.map (PV.int .i64)),.int .i64 o] (ratQ q5)∧Qad Tryz.prog 119 [.int .i64 (-2*b),.int .i64 1] (ratQ q6)∧Qad Tryz.prog 122 [ratQ q5,.slc [ratQ q6]] (ratQ q7)∧Qad Tryz.prog 121 [ratQ q4,ratQ q7] (ratQ q8)∧
   Qad Tryz.prog 119 [.int .i64 (b*b),.int .i64 1] (ratQ q9)∧Qad Tryz.prog 119 [.int .i64 t,.int .i64 1000] (ratQ q10)∧Qad Tryz.prog 122 [ratQ q9,.slc [ratQ q10]] (ratQ q11)∧Qad Tryz.prog 121 [ratQ q8,ratQ q11] (ratQ (axQ D c o t b))∧fitQ (k+5421) (axQ D c o t b):=by
 have ok:=Qjy hc
 have oa:=Qa1 ho
 have hbb:0≤b*b∧b*b≤1600000000:=by
  have h1:=Int.mul_le_mul (a:=(b.natAbs:Int)) (b:=(b.natAbs:Int)) (c:=40000) (d:=40000) (by omega) (by omega) (by omega) (by omega)
  have h2:(b.natAbs:Int)*(b.natAbs:Int)=b*b:=Int.natAbs_mul_self' b
  rw [h2]at h1
  have h3:0≤b*b:=by rw [←h2];exact Int.mul_nonneg (by omega) (by omega)
  omega
 have t1:fitQ 4836 (sqQ c o):=Q09 ok oa h0 h6 (by omega)
 have t2:fitQ 64 (fr 1000 t):=Qd7 (by decide) (by omega) (by omega)
 have t5:fitQ 326 (wayQ c o):=Qtk ok oa h0 (by omega)
 have t6:fitQ 64 (fr (-2*b) 1):=Qd7 (by omega) (by decide) (by decide)
 have t9:fitQ 64 (fr (b*b) 1):=Qd7 (by omega) (by decide) (by decide)
 have t10:fitQ 64 (fr t 1000):=Qd7 (by omega) (by decide) (by decide)
 have s1:=Qdk hD (Qb5 t1 t2)
 have s2:=Qdk s1 (Qb5 t5 t6)
 have s3:=Qdk s2 (Qb5 t9 t10)
 exact⟨sqQ c o,fr 1000 t,_,_,wayQ c o,fr (-2*b) 1,_,_,fr (b*b) 1,fr t 1000,_,
  Zse c o hc h1 h6 ho h0 ok,Qh9 1000 t (by unfold i64;omega) (by unfold i64;omega) (by omega),Qhc t1 t2 (by omega),Qia hD (Qb5 t1 t2) (by omega),
  Zhl c o hc h1 h6 ho h0 ok,Qh9 (-2*b) 1 (by unfold i64;omega) (by unfold i64;omega) (by decide),Qhc t5 t6 (by omega),Qia s1 (Qb5 t5 t6) (by omega),
  Qh9 (b*b) 1 (by unfold i64;omega) (by unfold i64;omega) (by decide),Qh9 t 1000 (by unfold i64;omega) (by unfold i64;omega) (by decide),Qhc t9 t10 (by omega),Qia s2 (Qb5 t9 t10) (by omega),s3.mono (by omega)⟩
def drN (s:Sg) (x y z:Int):Nat→Rat
 |0=>fr 0 1
 |1=>axQ (fr 0 1) s.x s.o (s.t-s.f) x
 |2=>axQ (axQ (fr 0 1) s.x s.o (s.t-s.f) x) s.y s.o (s.t-s.f) y
 |_=>drQ s x y z
theorem Qgh:((0:Nat):Int)=0:=rfl
theorem Qgi:((1:Nat):Int)=1:=rfl
theorem Qgj:((2:Nat):Int)=2:=rfl
theorem Qci:((3:Nat):Int)=3:=rfl
theorem Qco:IntKind.i64.wrap 1=1:=rfl
theorem Qcp:IntKind.i64.wrap 2=2:=rfl
theorem Qcq:IntKind.i64.wrap 3=3:=rfl
theorem Qty {b:Int} (hb: -40000≤b∧b≤40000):0≤b*b∧b*b≤1600000000:=by
 have h1:=Int.mul_le_mul (a:=(b.natAbs:Int)) (b:=(b.natAbs:Int)) (c:=40000) (d:=40000) (by omega) (by omega) (by omega) (by omega)
 have h2:(b.natAbs:Int)*(b.natAbs:Int)=b*b:=Int.natAbs_mul_self' b
 rw [h2]at h1
 have h3:0≤b*b:=by rw [←h2];exact Int.mul_nonneg (by omega) (by omega)
 omega
set_option maxHeartbeats 16000000 in
set_option maxRecDepth 100000 in
theorem Q2h (s:Sg) (B:Bat) (x y z:Int) (hs:okSg s) (hv:Qa2 s=true) (hB:Qat B=true) (hx: -40000≤x∧x≤40000) (hy: -40000≤y∧y≤40000) (hz: -40000≤z∧z≤40000):
  Qad Tryz.prog 73 [sgPV s,baPV B,.agg [.int .i64 x,.int .i64 y,.int .i64 z]] (.tup [.int .i64 (Qey s B x y z),.bool (decide (Qey s B x y z≤1125899906842624))]):=by
 obtain⟨⟨v1,v2,v3,v4,v5⟩,hax, -⟩:=Qbu hv
 have hvx:=hax s.x (by simp [Sg.ax])
 have hvy:=hax s.y (by simp [Sg.ax])
 have hvz:=hax s.z (by simp [Sg.ax])
 have hcx:=hs.c s.x (by simp [Sg.ax])
 have hcy:=hs.c s.y (by simp [Sg.ax])
 have hcz:=hs.c s.z (by simp [Sg.ax])
 have hbx:=Qty hx
 have hby:=Qty hy
 have hbz:=Qty hz
 obtain⟨B1,B2,B3, -⟩:=Qb9 hB
 have hwt:IntKind.i64.wrap (s.t-s.f)=s.t-s.f:=Qah (by omega) (by omega)
 have hbt:0≤B.base*(s.t-s.f)∧B.base*(s.t-s.f)≤1000000*3600000:=⟨Int.mul_nonneg B1.1 (by omega),Int.mul_le_mul B1.2 (by omega) (by omega) (by decide)⟩
 have hwbt:IntKind.i64.wrap (B.base*(s.t-s.f))=B.base*(s.t-s.f):=Qah (by omega) (by omega)
 have g1:=Qh9 (B.base*(s.t-s.f)) 1000 (by unfold i64;omega) (by unfold i64;omega) (by decide)
 have g2:=Zhl s.z s.o hcz (Qaw hvz).1 (Qaw hvz).2.1 hs.o (by omega) (Qjy hcz)
 have g3:=Qh9 B.climb 100 (by unfold i64;omega) (by unfold i64;omega) (by decide)
 have ft1:fitQ 64 (fr (B.base*(s.t-s.f)) 1000):=Qd7 (by omega) (by decide) (by decide)
 have ft2:fitQ 326 (wayQ s.z s.o):=Qtk (Qjy hcz) (Qa1 hs.o) (by omega) (by have:=(Qaw hvz).2.1;omega)
 have ft3:fitQ 64 (fr B.climb 100):=Qd7 (by omega) (by decide) (by decide)
 have g4:=Qhc ft2 ft3 (by decide)
 have g5:=Qia ft1 (Qb5 ft2 ft3) (by decide)
 have g6:=Qh9 0 1 (by unfold i64;omega) (by unfold i64;omega) (by decide)
 have ft6:fitQ 64 (fr 0 1):=Qd7 (by decide) (by decide) (by decide)
 have ftb:fitQ 455 (baQ s B):=by
  unfold baQ
  split
  ·exact ft1.mono (by decide)
  ·exact Qdk ft1 (Qb5 ft2 ft3)
 have hD1:fitQ 5485 (drN s x y z 1):=(Qhd ft6 (by decide) hcx (Qaw hvx).1 (Qaw hvx).2.1 hs.o (by omega) (show 0<s.t-s.f by omega) (by omega) hx).elim fun _ h=>by obtain⟨_,_,_,_,_,_,_,_,_,_,_,_,_,_,_,_,_,_,_,_,_,_,h⟩:=h;exact h
 have hD2:fitQ 10906 (drN s x y z 2):=(Qhd hD1 (by decide) hcy (Qaw hvy).1 (Qaw hvy).2.1 hs.o (by omega) (show 0<s.t-s.f by omega) (by omega) hy).elim fun _ h=>by obtain⟨_,_,_,_,_,_,_,_,_,_,_,_,_,_,_,_,_,_,_,_,_,_,h⟩:=h;exact h
 have hD3:fitQ 16327 (drQ s x y z):=(Qhd hD2 (by decide) hcz (Qaw hvz).1 (Qaw hvz).2.1 hs.o (by omega) (show 0<s.t-s.f by omega) (by omega) hz).elim fun _ h=>by obtain⟨_,_,_,_,_,_,_,_,_,_,_,_,_,_,_,_,_,_,_,_,_,_,h⟩:=h;exact h
 have g7:=Qh9 B.drag 1000000 (by unfold i64;omega) (by unfold i64;omega) (by decide)
 have ft7:fitQ 64 (fr B.drag 1000000):=Qd7 (by omega) (by decide) (by decide)
 have g8:=Qhc hD3 ft7 (by decide)
 have g9:=Qia ftb (Qb5 hD3 ft7) (by decide)
 obtain⟨c1,c2⟩:=Qpa (by unfold rngS;simp only [Bool.and_eq_true,decide_eq_true_eq];omega) hvx hvy hvz hB hx hy hz
 have eC:baQ s B+drQ s x y z*fr B.drag 1000000=Qnm s B x y z:=rfl
 have ftC:=Qdk ftb (Qb5 hD3 ft7)
 rw [eC]at g9 ftC
 have g10:=up_v ftC (by decide) c1 (by unfold Qey at c2;omega)
 have eI:upQ (Qnm s B x y z)=Qey s B x y z:=rfl
 rw [eI]at g10
 have d3:drN s x y z 3=drQ s x y z:=rfl
 have d0:drN s x y z 0=fr 0 1:=rfl
 have hsg:sgPV s= .agg [.int .i64 s.f,.int .i64 s.t,.int .i64 s.o,.slc (s.x.map (PV.int .i64)),.slc (s.y.map (PV.int .i64)),.slc (s.z.map (PV.int .i64))]:=rfl
 refine Zib 109 [.tmp 6,.tmp 7] Tryz.func73 rfl (by kernel_rfl) (by kernel_rfl) (by kernel_rfl) (by kernel_rfl) ?_
 refine Q85 mixed [] [0,1,2,3,4,5,6,7,8,9,10,11,13,32,57,58,59] 4 rfl (St.of [(3,.bp 0 6 0 0),(4,.bp 1 5 0 0),(5,.bp 2 3 0 0),(8,.int .i64 (s.t-s.f)),(9,.bp 205 4 0 0)] [(0,{els:=[sgPV s],esz:=6,ety:=56,fro:=0,live:=true,arr:=false}),(1,{els:=[baPV B],esz:=5,ety:=59,fro:=0,live:=true,arr:=false}),(2,{els:=[.agg [.int .i64 x,.int .i64 y,.int .i64 z]],esz:=3,ety:=26,fro:=0,live:=true,arr:=false}),(205,raB (baQ s B))]) ?_ ?_
 ·simp only [codes,Qkd,List.take_succ_cons,List.take_zero,List.drop_succ_cons,List.drop_zero,List.foldr_cons,List.foldr_nil]
  clear hD1 hD2 hD3 g6 g7 g8 g9 g10 ftC eC
  unfold baQ
  by_cases hn:(wayQ s.z s.o).num<0
  ·rw [if_pos hn]
   have hn':=decide_eq_true hn
   generalize wayQ s.z s.o=W at*
   generalize fr (B.base*(s.t-s.f)) 1000=E1 at*
   unfold ratQ Qdp at g1 g2
   simp only [hn']at g2
   repeat (first|(simp -implicitDefEqProofs only [go_sem,Nat.reduceAdd,Nat.reduceMul,Nat.reduceEqDiff,Nat.reduceLT,Nat.reduceLeDiff,reduceCtorEq,Int.reduceNeg,hwt,hwbt,hn'])|((with_reducible refine Qab (g1) ?_ ?_ ?_);(with_reducible rfl);rfl)|((with_reducible refine Qab (g2) ?_ ?_ ?_);(with_reducible rfl);rfl)|(with_reducible exact Qaa _ _ (by kernel_rfl))|(with_reducible refine And.intro (Qaa _ _ (by kernel_rfl)) ?_))
   refine Qak (θ:=[(0,0),(1,1),(2,2),(205,205)]) rfl ?_ ?_
   ·simp [Qaf,lkp,ren1,ren0,Qap]
   ·simp only [raB,ratQ,Qdp]
    exact⟨⟨rfl,rfl,rfl,rfl,rfl,.inr ⟨rfl,_,_,rfl,rfl,rfl,rfl⟩⟩,⟨rfl,rfl,rfl,rfl,rfl,.inr ⟨rfl,_,_,rfl,rfl,rfl,rfl⟩⟩,⟨rfl,rfl,rfl,rfl,rfl,.inr ⟨rfl,_,_,rfl,rfl,rfl,rfl⟩⟩,⟨rfl,rfl,rfl,rfl,rfl,.inr ⟨rfl,_,_,rfl,rfl,rfl,rfl⟩⟩,trivial⟩
  ·rw [if_neg hn]
   have hn':=decide_eq_false hn
   generalize fr (B.base*(s.t-s.f)) 1000+wayQ s.z s.o*fr B.climb 100=E3 at*
   generalize wayQ s.z s.o*fr B.climb 100=E2 at*
   generalize wayQ s.z s.o=W at*
   generalize fr (B.base*(s.t-s.f)) 1000=E1 at*
   generalize fr B.climb 100=E4 at*
   unfold ratQ Qdp at g1 g2 g3 g4 g5
   simp only [hn']at g2 g4
   repeat (first|(simp -implicitDefEqProofs only [go_sem,Nat.reduceAdd,Nat.reduceMul,Nat.reduceEqDiff,Nat.reduceLT,Nat.reduceLeDiff,reduceIte,reduceCtorEq,Int.reduceNeg,hwt,hwbt,hn'])|((with_reducible refine Qab (g1) ?_ ?_ ?_);(with_reducible rfl);rfl)|((with_reducible refine Qab (g2) ?_ ?_ ?_);(with_reducible rfl);rfl)|((with_reducible refine Qab (g3) ?_ ?_ ?_);(with_reducible rfl);rfl)|((with_reducible refine Qab (g4) ?_ ?_ ?_);(with_reducible rfl);rfl)|((with_reducible refine Qab (g5) ?_ ?_ ?_);(with_reducible rfl);rfl)|(with_reducible exact Qaa _ _ (by kernel_rfl))|(with_reducible refine And.intro (Qaa _ _ (by kernel_rfl)) ?_))
   refine Qak (θ:=[(0,0),(1,1),(2,2),(205,205)]) rfl ?_ ?_
   ·simp [Qaf,lkp,ren1,ren0,Qap]
   ·simp only [raB,ratQ,Qdp]
    exact⟨⟨rfl,rfl,rfl,rfl,rfl,.inr ⟨rfl,_,_,rfl,rfl,rfl,rfl⟩⟩,⟨rfl,rfl,rfl,rfl,rfl,.inr ⟨rfl,_,_,rfl,rfl,rfl,rfl⟩⟩,⟨rfl,rfl,rfl,rfl,rfl,.inr ⟨rfl,_,_,rfl,rfl,rfl,rfl⟩⟩,⟨rfl,rfl,rfl,rfl,rfl,.inr ⟨rfl,_,_,rfl,rfl,rfl,rfl⟩⟩,trivial⟩
 ·refine v_go (tb:=[]) (ks:=[0,1,2,3,4,5,6,7,8,9,10,11,13,32,57,58,59]) mixed ?_
  simp only [codes,Qkd,List.take_succ_cons,List.take_zero,List.drop_succ_cons,List.drop_zero,List.foldr_cons,List.foldr_nil]
  clear g1 g2 g3 g4 g5 ft1 ft2 ft3 hwbt
  rw [←d0]at g6 ft6
  generalize hE:baQ s B=E at*
  generalize hG:drN s x y z 0=G at*
  unfold ratQ Qdp at g6
  simp only [raB]
  unfold ratQ Qdp
  repeat (first|(simp -implicitDefEqProofs only [go_sem,Nat.reduceAdd,Nat.reduceMul,Nat.reduceEqDiff,Nat.reduceLT,Nat.reduceLeDiff,reduceCtorEq,Int.reduceNeg])|((with_reducible refine Qab (g6) ?_ ?_ ?_);(with_reducible rfl);rfl)|(with_reducible exact Qaa _ _ (by kernel_rfl))|(with_reducible refine And.intro (Qaa _ _ (by kernel_rfl)) ?_))
  refine Qar mixed (fun k:{k:Nat // k≤3}=>St.of [(3,.bp 0 6 0 0),(4,.bp 1 5 0 0),(8,.int .i64 (s.t-s.f)),(9,.bp 205 4 0 0),(11,.bp 601 4 0 0),(57,.agg [.slc (s.x.map (PV.int .i64)),.int .i64 x,.slc (s.y.map (PV.int .i64)),.int .i64 y,.slc (s.z.map (PV.int .i64)),.int .i64 z]),(58,.int .i64 (k.1:Int))] [(0,{els:=[sgPV s],esz:=6,ety:=56,fro:=0,live:=true,arr:=false}),(1,{els:=[baPV B],esz:=5,ety:=59,fro:=0,live:=true,arr:=false}),(205,raB E),(601,raB (drN s x y z k.1))]) (fun k=>3-k.1) ⟨0,Nat.zero_le _⟩ ?_ ?_
  ·refine Qak (θ:=[(0,0),(1,1),(205,205),(601,601)]) rfl ?_ ?_
   ·simp [Qaf,lkp,ren1,ren0,Qap]
   ·simp only [hG,raB,ratQ,Qdp]
    exact⟨⟨rfl,rfl,rfl,rfl,rfl,.inr ⟨rfl,_,_,rfl,rfl,rfl,rfl⟩⟩,⟨rfl,rfl,rfl,rfl,rfl,.inr ⟨rfl,_,_,rfl,rfl,rfl,rfl⟩⟩,⟨rfl,rfl,rfl,rfl,rfl,.inr ⟨rfl,_,_,rfl,rfl,rfl,rfl⟩⟩,⟨rfl,rfl,rfl,rfl,rfl,.inr ⟨rfl,_,_,rfl,rfl,rfl,rfl⟩⟩,trivial⟩
  ·subst hG
   rintro⟨k,hk⟩
   rcases(show k=0∨k=1∨k=2∨k=3 by omega)with rfl|rfl|rfl|rfl
   ·skip
    have hA':((0:Int)<3)=True:=eq_true (by decide)
    obtain⟨q1,q2,q3,q4,q5,q6,q7,q8,q9,q10,q11,f1,f2,f3,f4,f5,f6,f7,f8,f9,f10,f11,f12,fD⟩:=Qhd (c:=s.x) (o:=s.o) (t:=s.t-s.f) (b:=x) (D:=drN s x y z 0) ft6 (by decide) hcx (Qaw hvx).1 (Qaw hvx).2.1 hs.o (by omega) (by omega) (by omega) (by omega)
    have eD:axQ (drN s x y z 0) s.x s.o (s.t-s.f) x=drN s x y z (0+1):=rfl
    rw [eD]at f12
    have hwb:IntKind.i64.wrap (-2*x)= -2*x:=Qah (by omega) (by omega)
    have hwc:IntKind.i64.wrap (x*x)=x*x:=by have:=hbx;exact Qah (by omega) (by omega)
    generalize hq0:drN s x y z 0=D0 at*
    generalize hq1:drN s x y z (0+1)=D1 at*
    simp only [raB]
    unfold ratQ Qdp at f1 f2 f3 f4 f5 f6 f7 f8 f9 f10 f11 f12 ⊢
    repeat (first|(simp -implicitDefEqProofs only [go_sem,Nat.reduceAdd,Nat.reduceMul,Nat.reduceEqDiff,Nat.reduceLT,Nat.reduceLeDiff,Nat.reduceSub,reduceIte,reduceCtorEq,Int.reduceNeg,hA',hwt,hwb,hwc,Qco,Qcp,Qcq,Qgh,Qgi,Qgj,Qci])|((with_reducible refine Qab (f1) ?_ ?_ ?_);(with_reducible rfl);rfl)|((with_reducible refine Qab (f2) ?_ ?_ ?_);(with_reducible rfl);rfl)|((with_reducible refine Qab (f3) ?_ ?_ ?_);(with_reducible rfl);rfl)|((with_reducible refine Qab (f4) ?_ ?_ ?_);(with_reducible rfl);rfl)|(with_reducible exact Qaa _ _ (by kernel_rfl))|(with_reducible refine And.intro (Qaa _ _ (by kernel_rfl)) ?_))
    repeat (first|(simp -implicitDefEqProofs only [go_sem,Nat.reduceAdd,Nat.reduceMul,Nat.reduceEqDiff,Nat.reduceLT,Nat.reduceLeDiff,reduceIte,reduceCtorEq,Int.reduceNeg,hA',hwt,hwb,hwc,Qco,Qcp,Qcq,Qgh,Qgi,Qgj,Qci])|((with_reducible refine Qab (f5) ?_ ?_ ?_);(with_reducible rfl);rfl)|((with_reducible refine Qab (f6) ?_ ?_ ?_);(with_reducible rfl);rfl)|((with_reducible refine Qab (f7) ?_ ?_ ?_);(with_reducible rfl);rfl)|((with_reducible refine Qab (f8) ?_ ?_ ?_);(with_reducible rfl);rfl)|(with_reducible exact Qaa _ _ (by kernel_rfl))|(with_reducible refine And.intro (Qaa _ _ (by kernel_rfl)) ?_))
    repeat (first|(simp -implicitDefEqProofs only [go_sem,Nat.reduceAdd,Nat.reduceMul,Nat.reduceEqDiff,Nat.reduceLT,Nat.reduceLeDiff,reduceIte,reduceCtorEq,Int.reduceAdd,hA',hwt,hwb,hwc,Qco,Qcp,Qcq,Qgh,Qgi,Qgj,Qci])|((with_reducible refine Qab (f9) ?_ ?_ ?_);(with_reducible rfl);rfl)|((with_reducible refine Qab (f10) ?_ ?_ ?_);(with_reducible rfl);rfl)|((with_reducible refine Qab (f11) ?_ ?_ ?_);(with_reducible rfl);rfl)|((with_reducible refine Qab (f12) ?_ ?_ ?_);(with_reducible rfl);rfl)|(with_reducible exact Qaa _ _ (by kernel_rfl))|(with_reducible refine And.intro (Qaa _ _ (by kernel_rfl)) ?_))
    refine⟨⟨0+1,by omega⟩,by simp only;omega,Qak (θ:=[(0,0),(1,1),(205,205),(601,601)]) rfl ?_ ?_⟩
    ·simp [Qaf,lkp,ren1,ren0,Qap]
    ·have hq2:drN s x y z 1=D1:=hq1
     simp only [Nat.reduceAdd,hq2,raB,ratQ,Qdp]
     exact⟨⟨rfl,rfl,rfl,rfl,rfl,.inr ⟨rfl,_,_,rfl,rfl,rfl,rfl⟩⟩,⟨rfl,rfl,rfl,rfl,rfl,.inr ⟨rfl,_,_,rfl,rfl,rfl,rfl⟩⟩,⟨rfl,rfl,rfl,rfl,rfl,.inr ⟨rfl,_,_,rfl,rfl,rfl,rfl⟩⟩,⟨rfl,rfl,rfl,rfl,rfl,.inr ⟨rfl,_,_,rfl,rfl,rfl,rfl⟩⟩,trivial⟩
   ·skip
    have hA':((1:Int)<3)=True:=eq_true (by decide)
    obtain⟨q1,q2,q3,q4,q5,q6,q7,q8,q9,q10,q11,f1,f2,f3,f4,f5,f6,f7,f8,f9,f10,f11,f12,fD⟩:=Qhd (c:=s.y) (o:=s.o) (t:=s.t-s.f) (b:=y) (D:=drN s x y z 1) hD1 (by decide) hcy (Qaw hvy).1 (Qaw hvy).2.1 hs.o (by omega) (by omega) (by omega) (by omega)
    have eD:axQ (drN s x y z 1) s.y s.o (s.t-s.f) y=drN s x y z (1+1):=rfl
    rw [eD]at f12
    have hwb:IntKind.i64.wrap (-2*y)= -2*y:=Qah (by omega) (by omega)
    have hwc:IntKind.i64.wrap (y*y)=y*y:=by have:=hby;exact Qah (by omega) (by omega)
    generalize hq0:drN s x y z 1=D0 at*
    generalize hq1:drN s x y z (1+1)=D1 at*
    simp only [raB]
    unfold ratQ Qdp at f1 f2 f3 f4 f5 f6 f7 f8 f9 f10 f11 f12 ⊢
    repeat (first|(simp -implicitDefEqProofs only [go_sem,Nat.reduceAdd,Nat.reduceMul,Nat.reduceEqDiff,Nat.reduceLT,Nat.reduceLeDiff,Nat.reduceSub,reduceIte,reduceCtorEq,Int.reduceLE,Int.reduceToNat,Int.reduceNeg,hA',hwt,hwb,hwc,Qco,Qcp,Qcq,Qgh,Qgi,Qgj,Qci])|((with_reducible refine Qab (f1) ?_ ?_ ?_);(with_reducible rfl);rfl)|((with_reducible refine Qab (f2) ?_ ?_ ?_);(with_reducible rfl);rfl)|((with_reducible refine Qab (f3) ?_ ?_ ?_);(with_reducible rfl);rfl)|((with_reducible refine Qab (f4) ?_ ?_ ?_);(with_reducible rfl);rfl)|(with_reducible exact Qaa _ _ (by kernel_rfl))|(with_reducible refine And.intro (Qaa _ _ (by kernel_rfl)) ?_))
    repeat (first|(simp -implicitDefEqProofs only [go_sem,Nat.reduceAdd,Nat.reduceMul,Nat.reduceEqDiff,Nat.reduceLT,Nat.reduceLeDiff,reduceIte,reduceCtorEq,Int.reduceNeg,hA',hwt,hwb,hwc,Qco,Qcp,Qcq,Qgh,Qgi,Qgj,Qci])|((with_reducible refine Qab (f5) ?_ ?_ ?_);(with_reducible rfl);rfl)|((with_reducible refine Qab (f6) ?_ ?_ ?_);(with_reducible rfl);rfl)|((with_reducible refine Qab (f7) ?_ ?_ ?_);(with_reducible rfl);rfl)|((with_reducible refine Qab (f8) ?_ ?_ ?_);(with_reducible rfl);rfl)|(with_reducible exact Qaa _ _ (by kernel_rfl))|(with_reducible refine And.intro (Qaa _ _ (by kernel_rfl)) ?_))
    repeat (first|(simp -implicitDefEqProofs only [go_sem,Nat.reduceAdd,Nat.reduceMul,Nat.reduceEqDiff,Nat.reduceLT,Nat.reduceLeDiff,reduceIte,reduceCtorEq,Int.reduceAdd,hA',hwt,hwb,hwc,Qco,Qcp,Qcq,Qgh,Qgi,Qgj,Qci])|((with_reducible refine Qab (f9) ?_ ?_ ?_);(with_reducible rfl);rfl)|((with_reducible refine Qab (f10) ?_ ?_ ?_);(with_reducible rfl);rfl)|((with_reducible refine Qab (f11) ?_ ?_ ?_);(with_reducible rfl);rfl)|((with_reducible refine Qab (f12) ?_ ?_ ?_);(with_reducible rfl);rfl)|(with_reducible exact Qaa _ _ (by kernel_rfl))|(with_reducible refine And.intro (Qaa _ _ (by kernel_rfl)) ?_))
    refine⟨⟨1+1,by omega⟩,by simp only;omega,Qak (θ:=[(0,0),(1,1),(205,205),(601,601)]) rfl ?_ ?_⟩
    ·simp [Qaf,lkp,ren1,ren0,Qap]
    ·have hq2:drN s x y z 2=D1:=hq1
     simp only [Nat.reduceAdd,hq2,raB,ratQ,Qdp]
     exact⟨⟨rfl,rfl,rfl,rfl,rfl,.inr ⟨rfl,_,_,rfl,rfl,rfl,rfl⟩⟩,⟨rfl,rfl,rfl,rfl,rfl,.inr ⟨rfl,_,_,rfl,rfl,rfl,rfl⟩⟩,⟨rfl,rfl,rfl,rfl,rfl,.inr ⟨rfl,_,_,rfl,rfl,rfl,rfl⟩⟩,⟨rfl,rfl,rfl,rfl,rfl,.inr ⟨rfl,_,_,rfl,rfl,rfl,rfl⟩⟩,trivial⟩
   ·skip
    have hA':((2:Int)<3)=True:=eq_true (by decide)
    obtain⟨q1,q2,q3,q4,q5,q6,q7,q8,q9,q10,q11,f1,f2,f3,f4,f5,f6,f7,f8,f9,f10,f11,f12,fD⟩:=Qhd (c:=s.z) (o:=s.o) (t:=s.t-s.f) (b:=z) (D:=drN s x y z 2) hD2 (by decide) hcz (Qaw hvz).1 (Qaw hvz).2.1 hs.o (by omega) (by omega) (by omega) (by omega)
    have eD:axQ (drN s x y z 2) s.z s.o (s.t-s.f) z=drN s x y z (2+1):=rfl
    rw [eD]at f12
    have hwb:IntKind.i64.wrap (-2*z)= -2*z:=Qah (by omega) (by omega)
    have hwc:IntKind.i64.wrap (z*z)=z*z:=by have:=hbz;exact Qah (by omega) (by omega)
    generalize hq0:drN s x y z 2=D0 at*
    generalize hq1:drN s x y z (2+1)=D1 at*
    simp only [raB]
    unfold ratQ Qdp at f1 f2 f3 f4 f5 f6 f7 f8 f9 f10 f11 f12 ⊢
    repeat (first|(simp -implicitDefEqProofs only [go_sem,Nat.reduceAdd,Nat.reduceMul,Nat.reduceEqDiff,Nat.reduceLT,Nat.reduceLeDiff,Nat.reduceSub,reduceIte,reduceCtorEq,Int.reduceLE,Int.reduceToNat,Int.reduceNeg,hA',hwt,hwb,hwc,Qco,Qcp,Qcq,Qgh,Qgi,Qgj,Qci])|((with_reducible refine Qab (f1) ?_ ?_ ?_);(with_reducible rfl);rfl)|((with_reducible refine Qab (f2) ?_ ?_ ?_);(with_reducible rfl);rfl)|((with_reducible refine Qab (f3) ?_ ?_ ?_);(with_reducible rfl);rfl)|((with_reducible refine Qab (f4) ?_ ?_ ?_);(with_reducible rfl);rfl)|(with_reducible exact Qaa _ _ (by kernel_rfl))|(with_reducible refine And.intro (Qaa _ _ (by kernel_rfl)) ?_))
    repeat (first|(simp -implicitDefEqProofs only [go_sem,Nat.reduceAdd,Nat.reduceMul,Nat.reduceEqDiff,Nat.reduceLT,Nat.reduceLeDiff,reduceIte,reduceCtorEq,Int.reduceNeg,hA',hwt,hwb,hwc,Qco,Qcp,Qcq,Qgh,Qgi,Qgj,Qci])|((with_reducible refine Qab (f5) ?_ ?_ ?_);(with_reducible rfl);rfl)|((with_reducible refine Qab (f6) ?_ ?_ ?_);(with_reducible rfl);rfl)|((with_reducible refine Qab (f7) ?_ ?_ ?_);(with_reducible rfl);rfl)|((with_reducible refine Qab (f8) ?_ ?_ ?_);(with_reducible rfl);rfl)|(with_reducible exact Qaa _ _ (by kernel_rfl))|(with_reducible refine And.intro (Qaa _ _ (by kernel_rfl)) ?_))
    repeat (first|(simp -implicitDefEqProofs only [go_sem,Nat.reduceAdd,Nat.reduceMul,Nat.reduceEqDiff,Nat.reduceLT,Nat.reduceLeDiff,reduceIte,reduceCtorEq,Int.reduceAdd,hA',hwt,hwb,hwc,Qco,Qcp,Qcq,Qgh,Qgi,Qgj,Qci])|((with_reducible refine Qab (f9) ?_ ?_ ?_);(with_reducible rfl);rfl)|((with_reducible refine Qab (f10) ?_ ?_ ?_);(with_reducible rfl);rfl)|((with_reducible refine Qab (f11) ?_ ?_ ?_);(with_reducible rfl);rfl)|((with_reducible refine Qab (f12) ?_ ?_ ?_);(with_reducible rfl);rfl)|(with_reducible exact Qaa _ _ (by kernel_rfl))|(with_reducible refine And.intro (Qaa _ _ (by kernel_rfl)) ?_))
    refine⟨⟨2+1,by omega⟩,by simp only;omega,Qak (θ:=[(0,0),(1,1),(205,205),(601,601)]) rfl ?_ ?_⟩
    ·simp [Qaf,lkp,ren1,ren0,Qap]
    ·have hq2:drN s x y z 3=D1:=hq1
     simp only [Nat.reduceAdd,hq2,raB,ratQ,Qdp]
     exact⟨⟨rfl,rfl,rfl,rfl,rfl,.inr ⟨rfl,_,_,rfl,rfl,rfl,rfl⟩⟩,⟨rfl,rfl,rfl,rfl,rfl,.inr ⟨rfl,_,_,rfl,rfl,rfl,rfl⟩⟩,⟨rfl,rfl,rfl,rfl,rfl,.inr ⟨rfl,_,_,rfl,rfl,rfl,rfl⟩⟩,⟨rfl,rfl,rfl,rfl,rfl,.inr ⟨rfl,_,_,rfl,rfl,rfl,rfl⟩⟩,trivial⟩
   ·have hA':((3:Int)<3)=False:=eq_false (by decide)
    simp only [d3]
    generalize baQ s B+drQ s x y z*fr B.drag 1000000=T at*
    generalize Qnm s B x y z=T3 at*
    generalize drQ s x y z*fr B.drag 1000000=T2 at*
    generalize drQ s x y z=T1 at*
    generalize fr B.drag 1000000=T4 at*
    generalize Qey s B x y z=I at*
    simp only [raB]
    unfold ratQ Qdp at g7 g8 g9 g10 ⊢
    repeat (first|(simp -implicitDefEqProofs only [go_sem,Nat.reduceAdd,Nat.reduceMul,Nat.reduceEqDiff,Nat.reduceLT,Nat.reduceLeDiff,Nat.reduceSub,reduceIte,reduceCtorEq,Int.reduceNeg,hA',Qci])|((with_reducible refine Qab (g7) ?_ ?_ ?_);(with_reducible rfl);rfl)|((with_reducible refine Qab (g8) ?_ ?_ ?_);(with_reducible rfl);rfl)|((with_reducible refine Qab (g9) ?_ ?_ ?_);(with_reducible rfl);rfl)|((with_reducible refine Qab (g10) ?_ ?_ ?_);(with_reducible rfl);rfl)|(with_reducible exact Qaa _ _ (by kernel_rfl))|(with_reducible refine And.intro (Qaa _ _ (by kernel_rfl)) ?_))
end Go.Proofs.YtciddhkfbgkejaaGreatDoor
