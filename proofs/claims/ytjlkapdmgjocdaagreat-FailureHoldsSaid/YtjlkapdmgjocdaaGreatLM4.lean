/-
  LW29, Dp, LW30, LW31, LW32, LA11, LA12, LA13, LP1, LP2, LN1, LN2, LP3, LP4, LM1, LM2, LM3, LM4 (merged for the claim).
-/
import Derived.Test.YtjlkapdmgjocdaaGreatLW28
import Derived.Test.YtjlkapdmgjocdaaGreatLA10
import Derived.Test.YtjlkapdmgjocdaaGreatLW22
import Derived.Test.YtjlkapdmgjocdaaGreatUY
import Derived.Test.YtjlkapdmgjocdaaGreatDsg
set_option linter.unusedSimpArgs false
set_option linter.unusedVariables false
namespace Go.Proofs.YtjlkapdmgjocdaaGreat
open Go.Vl Go.RowKit Go.Dg
def Zki (x y:Int):PV:= .tup [wPV (outN (x/y)),wPV (outN (x%y)),.int .i64 0]
theorem Zw4 (xn:Bool) (a b:Nat):nqn xn a b≤a+1:=by
 have:=Nat.div_le_self a b;unfold nqn;split<;>omega
theorem Zw5 (xn:Bool) (a b:Nat) (hb:0<b):nrn xn a b≤b:=by
 have:=Nat.mod_lt a hb;unfold nrn;split<;>omega
theorem Zs1 (a:Nat):(digs BW (a+1)).length≤(digs BW a).length+1:=by
 refine(Qaz BW_2 _ _).2 ?_;have h:=Qbe BW_2 a;rw [Nat.pow_succ];generalize BW^(digs BW a).length=M at*;simp only [BW];omega
theorem Zkj {l:List UInt8} (h:l≠ []):(l== [])=false:=by cases l with|nil=>exact absurd rfl h|cons=>rfl
theorem Zw6 (an bn:Bool) (a b:ByteArray) (h1:Qbj an a.data.toList=true) (h2:Qbj bn b.data.toList=true) (h0:b.data.toList≠ []) (ha:a.size≤100000) (hb:b.size≤100000):
  Qaf Tryz.prog 72 [.agg [.bool an,.str a],.agg [.bool bn,.str b]] (Zki (wnum an a) (wnum bn b)):=by
 have hv:=Qtz an bn a b;rw [h1,h2,Bool.true_and]at hv;have hL1:=Qgi a ha;have hL2:=Qgi b hb;have hoa:=Qox an a h1 (by omega);have hob:=Qox bn b h2 (by omega);have hbp:0<bnum b.data.toList:=by
  cases hl:b.data.toList with
  |nil=>exact absurd hl h0
  |cons c r=>
   rw [hl]at h2;simp only [Qbj,Bool.and_eq_true]at h2;have hc:c.toNat≠0:=fun e=>by
    have:c≠0:=by simpa using h2.2
    exact this (UInt8.toNat_inj.1 (by simpa using e))
   rw [Qnr];have hp:0<c.toNat*256^r.length:=Nat.mul_pos (Nat.pos_of_ne_zero hc) (Nat.pow_pos (by decide));omega
 have he:=Zkj h0;have hd:=Zw1 an bn (bnum a.data.toList) (bnum b.data.toList) hbp (by omega) (by omega);obtain⟨d1,d2⟩:=Zw0 an bn (bnum a.data.toList) (bnum b.data.toList) hbp;have hq:=Qkr (!(an==bn)) (nqn an (bnum a.data.toList) (bnum b.data.toList)) (Nat.le_trans (Qnu (Zw4 _ _ _)) (Nat.le_trans (Zs1 _) (by omega)));have hr:=Qkr false (nrn an (bnum a.data.toList) (bnum b.data.toList)) (Nat.le_trans (Qnu (Zw5 _ _ _ hbp)) (by omega));have e2:sv false (nrn an (bnum a.data.toList) (bnum b.data.toList))=((nrn an (bnum a.data.toList) (bnum b.data.toList):Nat):Int):=rfl;rw [d1,Qhp]at hq;rw [e2,d2,Qhp]at hr;unfold Zki wnum;refine Qab (tb:=[]) 40 [.cell 4 93,.cell 5 93,.tmp 6] [0,1,2,3,4,5,6,7,8,12,17] mixed Tryz.func72 rfl (by kernel_rfl) (by kernel_rfl) (by kernel_rfl) (by kernel_rfl) ?_;repeat (first|(simp -implicitDefEqProofs only [go_sem,Nat.reduceAdd,Nat.reduceMul,Nat.reduceEqDiff,Nat.reduceLT,Nat.reduceLeDiff,reduceCtorEq,he,nP,dw,wPV])|((with_reducible refine Qaa hv ?_ ?_ ?_);rfl;rfl)|((with_reducible refine Qaa hoa ?_ ?_ ?_);rfl;rfl)|((with_reducible refine Qaa hob ?_ ?_ ?_);rfl;rfl)|((with_reducible refine Qaa hd ?_ ?_ ?_);rfl;rfl)|((with_reducible refine Qaa hq ?_ ?_ ?_);rfl;rfl)|((with_reducible refine Qaa hr ?_ ?_ ?_);rfl;rfl)|(with_reducible exact Qae _ _ (by kernel_rfl))|(with_reducible refine And.intro (Qae _ _ (by kernel_rfl)) ?_))
end Go.Proofs.YtjlkapdmgjocdaaGreat

namespace Go.Dg
theorem p256 (k:Nat):(256:Nat)^k=2^(8*k):=by rw [show(256:Nat)=2^8 from rfl,←Nat.pow_mul]
theorem Zug {m B k:Nat} (h:m<2^B) (hk:B≤8*k):m<256^k:=by
 rw [p256];exact Nat.lt_of_lt_of_le h (Nat.pow_le_pow_right (by decide) hk)
theorem Qic {m B C:Nat} (h:m<2^B) (hk:B≤C):m<2^C:=Nat.lt_of_lt_of_le h (Nat.pow_le_pow_right (by decide) hk)
theorem Qap {m B:Nat} (h:m<2^B) (hk:B≤65536):m<2^65536:=Qic (C:=65536) h hk
end Go.Dg

namespace Go.Proofs.YtjlkapdmgjocdaaGreat
open Go.Vl Go.RowKit Go.Dg
end Go.Proofs.YtjlkapdmgjocdaaGreat

namespace Go.Proofs.YtjlkapdmgjocdaaGreat
open Go.Vl Go.RowKit Go.Dg
def big (x y:Int):Bool:=decide (65536<blen x.natAbs)||decide (65536<blen y.natAbs)
theorem Zw7 (n:Bool) (m:Nat):(sv n m).natAbs=m:=by cases n<;>simp [sv]
end Go.Proofs.YtjlkapdmgjocdaaGreat

namespace Go.Proofs.YtjlkapdmgjocdaaGreat
open Go.Vl Go.RowKit Go.Dg
theorem Qrp (n:Int):(magL n.natAbs=[])↔n=0:=by
 have h:=Qdw n.natAbs;constructor
 ·intro e;rw [e]at h;have:=(Qbo (B:=256) (by decide)).1 (List.length_eq_zero_iff.1 h.symm);omega
 ·rintro rfl;simp [magL,Qbi]
end Go.Proofs.YtjlkapdmgjocdaaGreat

namespace Go.Proofs.YtjlkapdmgjocdaaGreat
open Go.Vl Go.RowKit Go.Dg
end Go.Proofs.YtjlkapdmgjocdaaGreat

namespace Go.Proofs.YtjlkapdmgjocdaaGreat
open Go.Vl Go.RowKit Go.Dg
end Go.Proofs.YtjlkapdmgjocdaaGreat

namespace Go.Proofs.YtjlkapdmgjocdaaGreat
open Go.Vl Go.RowKit Go.Dg
theorem mod_lt {y:Int} {k:Nat} (x:Int) (h0:y≠0) (hy:y.natAbs<256^k):(x%y).natAbs<256^k:=by
 have h1:=Int.emod_nonneg x h0;have h2:=Int.emod_lt x h0;omega
theorem Znw {n:Bool} {s:ByteArray} (h:Qbj n s.data.toList=true) (h0:s.data.toList≠ []):wnum n s≠0:=by
 intro e;have h1:=Zkf n s h;rw [e,Qyw]at h1;simp only [PV.agg.injEq,List.cons.injEq,PV.str.injEq,PV.bool.injEq,and_true]at h1;exact h0 (by rw [←h1.2])
theorem Zdt {n:Bool} {s:ByteArray} (h0:s.data.toList=[]):wnum n s=0:=by
 unfold wnum sv;rw [h0];cases n<;>rfl
section
variable (a b c d:Int) (k:Nat) (hk:k≤10000) (ha:a.natAbs<256^k) (hb:b.natAbs<256^k) (hc:c.natAbs<256^k) (hd:d.natAbs<256^k)
include hk ha hb hc hd
end
end Go.Proofs.YtjlkapdmgjocdaaGreat

namespace Go.Proofs.YtjlkapdmgjocdaaGreat
open Go.Vl Go.RowKit Go.Dg
theorem Qpt {x y:Int} {B:Nat} (hx:x.natAbs<2^B) (hy:y.natAbs<2^B):(x+y).natAbs<2^(B+1):=by
 rw [Nat.pow_succ];generalize 2^B=K at*;omega
theorem Qja {x y:Int} {B C:Nat} (hx:x.natAbs<2^B) (hy:y.natAbs<2^C):(x*y).natAbs<2^(B+C):=by
 rw [Int.natAbs_mul,Nat.pow_add];exact Nat.mul_lt_mul'' hx hy
theorem Zmg {x:Int} (h:x.natAbs<2^65536):(digs 256 x.natAbs).length≤8192:=(Qaz (by decide) x.natAbs 8192).2 (Zug (k:=8192) h (by decide))
theorem Qjb {n:Int} (h:n.natAbs<2^65536):Qih n= .tup [wPV n,.int .i64 0]:=by
 rw [Qih,if_neg (Nat.not_lt.2 (Qds 65536 _ h))]
abbrev mB (x:Int):ByteArray:=⟨(magL x.natAbs).toArray⟩
theorem Qdm {x:Int} (h:x.natAbs<2^65536):(mB x).size≤100000:=by rw [Q5j];have:=Zmg h;omega
theorem Qco {x:Int} (h:x.natAbs<2^65536):Qbj (decide (x<0)) (mB x).data.toList=true:=Qwx x (Zmg h)
theorem Qno (x:Int):(bnum (mB x).data.toList)=x.natAbs:=by
 have h:=Qcw x;unfold wnum at h;have h2:=congrArg Int.natAbs h
 rwa [Zw7]at h2
theorem Zmh {x y:Int} (hx:x.natAbs<2^65536) (hy:y.natAbs<2^65536):Qaf Tryz.prog 103 [wPV x,wPV y] (Qih (x*y)):=by
 have h:=Zw2 (decide (x<0)) (decide (y<0)) (mB x) (mB y) (Qco hx) (Qco hy) (Qdm hx) (Qdm hy)
 rwa [Qcw,Qcw]at h
theorem Zmi {x y:Int} (hx:x.natAbs<2^65536) (hy:y.natAbs<2^65536):Qaf Tryz.prog 73 [wPV x,wPV y] (Qih (x+y)):=by
 have h:=Zws (decide (x<0)) (decide (y<0)) (mB x) (mB y) (Qco hx) (Qco hy) (Qdm hx) (Qdm hy)
 rwa [Qcw,Qcw]at h
theorem Zvt {x y:Int} (hx:x.natAbs<2^65536) (hy:y.natAbs<2^65536):Qaf Tryz.prog 102 [wPV x,wPV y] (Qih ((Nat.gcd x.natAbs y.natAbs:Nat):Int)):=by
 have h:=Zw3 (decide (x<0)) (decide (y<0)) (mB x) (mB y) (Qco hx) (Qco hy) (Qdm hx) (Qdm hy)
 rwa [Qno,Qno]at h
theorem Q6t {x:Int} (hx:x.natAbs<2^65536):Qaf Tryz.prog 130 [wPV x] (.int .i64 x.sign):=by
 have h:=Za3 (decide (x<0)) (mB x) (Qco hx) (Qdm hx)
 rwa [Qcw]at h
theorem Zvu {x:Int} (hx:x.natAbs<2^65536):Qaf Tryz.prog 140 [wPV x] (.int .i64 (blen x.natAbs:Int)):=by
 have h:=Zwv (decide (x<0)) (mB x) (Qco hx) (Qdm hx)
 rwa [Qno]at h
theorem Qnp {x:Int} (hx:x.natAbs<2^65536):Qaf Tryz.prog 44 [wPV x] (Qd0 x):=by
 have h:=Zwu (decide (x<0)) (mB x) (Qco hx) (Qdm hx)
 rwa [Qcw]at h
theorem Qpu {x y:Int} (hx:x.natAbs<2^65536) (hy:y.natAbs<2^65536):Qaf Tryz.prog 101 [wPV x,wPV y] (.int .i64 (x-y).sign):=by
 have h:=Q2k (decide (x<0)) (decide (y<0)) (mB x) (mB y) (Qco hx) (Qco hy) (Qdm hx) (Qdm hy)
 rwa [Qcw,Qcw]at h
theorem Qmc {x:Int} (hx:x.natAbs<2^65536):Qaf Tryz.prog 70 [wPV x] (.bool true):=by
 have h:=Qf2 (decide (x<0)) (mB x)
 rwa [Qco hx]at h
theorem Zvv {x:Int} (h:x≠0):(mB x).data.toList≠ []:=fun e=>h ((Qrp x).1 e)
theorem Zvw {x y:Int} (hx:x.natAbs<2^65536) (hy:y.natAbs<2^65536) (h0:y≠0):Qaf Tryz.prog 72 [wPV x,wPV y] (Zki x y):=by
 have h:=Zw6 (decide (x<0)) (decide (y<0)) (mB x) (mB y) (Qco hx) (Qco hy) (Zvv h0) (Qdm hx) (Qdm hy)
 rwa [Qcw,Qcw]at h
end Go.Proofs.YtjlkapdmgjocdaaGreat

namespace Go.Proofs.YtjlkapdmgjocdaaGreat
open Go.Vl Go.RowKit Go.Dg
def wA (p:Bool×ByteArray):PV:= .agg [.bool p.1,.str p.2]
theorem Zmj (l:List (Bool×ByteArray)) (i:Nat) (h:i<l.length):(l.map wA)[i]? =some (.agg [.bool l[i].1,.str l[i].2]):=by
 rw [List.getElem?_map,List.getElem?_eq_getElem h];rfl
theorem Zvx (a b:ByteArray):(a==b)=(a.data==b.data):=rfl
def wL (xs:List Int):PV:= .slc (xs.map wPV)
theorem Qdn (xs:List Int) (i:Nat) (h:i<xs.length):(xs.map wPV)[i]? =some (.agg [.bool (decide (xs[i]<0)),.str (mB xs[i])]):=by
 rw [List.getElem?_map,List.getElem?_eq_getElem h];rfl
theorem Zov (xs:List Int):(((xs.map wPV).flatMap PV.cells).all PV.okCell)=true:=by
 rw [List.all_flatMap,List.all_map,List.all_eq_true];intro _ _;rfl
theorem Zev {α:Type} {p:α→Bool} {l:List α} {i:Nat} (hi:i<l.length) (h:(l.take i).all p=true) (hp:p l[i]=true):(l.take (i+1)).all p=true:=by
 rw [List.take_add_one,List.all_append,h];simp [hi,hp]
theorem Q6u {α:Type} {p:α→Bool} {l:List α} {i:Nat} (hi:i<l.length) (hp:p l[i]=false):l.all p=false:=by
 rw [List.all_eq_false];exact⟨l[i],List.getElem_mem hi,by simp [hp]⟩
theorem Qcb {α:Type} (l:List α) (i:Nat) (hi:i<l.length):l.take (i+1)=l.take i++[l[i]]:=by rw [List.take_add_one];simp [hi]
theorem ltT {i n:Nat} (h:i<n):((i:Int)<(n:Int))=True:=by simp only [eq_iff_iff,iff_true];omega
theorem ltF {i n:Nat} (h: ¬i<n):((i:Int)<(n:Int))=False:=by simp only [eq_iff_iff,iff_false];omega
theorem nnT (i:Nat):((0:Int)≤(i:Int))=True:=by simp
def topB (l:List (Bool×ByteArray)):Bool:=match l[l.length-1]? with
 |some p=>decide (0<p.2.size)
 |none=>true
def Qzc (l:List (Bool×ByteArray)):Bool:=l.all fun p=>Qbj p.1 p.2.data.toList
def Qv8 (l:List (Bool×ByteArray)):Bool:=Qzc l&&(decide (l.length≤25)&&topB l)
theorem Qtv {l:List (Bool×ByteArray)} (h:l.length-1<l.length):topB l=decide (0<(l[l.length-1]'h).2.size):=by
 unfold topB;rw [List.getElem?_eq_getElem h]
theorem Zew (l:List (Bool×ByteArray)) (hl:l.length≤100000) (hs2: ∀p∈l,p.2.size≤100000):Qaf Tryz.prog 129 [.slc (l.map wA)] (.bool (Qv8 l)):=by
 refine Qab (tb:=[]) 33 [.tmp 2] [0,2,4,5,6,7,8,13] mixed Tryz.func129 rfl (by kernel_rfl) (by kernel_rfl) (by kernel_rfl) (by kernel_rfl) ?_;simp -implicitDefEqProofs only [go_sem,Nat.reduceAdd,Nat.reduceMul,Nat.reduceEqDiff,Nat.reduceLT,Nat.reduceLeDiff,reduceCtorEq,List.length_map];refine Qar mixed (fun i:{i:Nat // i≤l.length∧(l.take i).all (fun p=>Qbj p.1 p.2.data.toList)=true}=>St.of [(0,.slc (l.map wA)),(5,.slc (l.map wA)),(6,.int .i64 (l.length:Int)),(7,.int .i64 (i.1:Int))] []) (fun i=>l.length-i.1) ⟨0,Nat.zero_le _,rfl⟩ ?_ ?_
 ·exact Qa3 (by simp [Qac,lkp,ren1,ren0])
 ·rintro⟨i,hi,hall⟩;by_cases hA:i<l.length
  ·have hA':=ltT hA;have h0:=nnT i;have hg:=Zmj l i hA;have hwk:=Qan (a:=i) (by omega);simp -implicitDefEqProofs only [go_sem,Nat.reduceAdd,Nat.reduceMul,Nat.reduceEqDiff,Nat.reduceLT,Nat.reduceLeDiff,reduceCtorEq,hA',h0,hg,Int.toNat_natCast];refine Qah _ _ _ _ _ _ _ _ _ (Qf2 l[i].1 l[i].2) ?_;cases hs:Qbj l[i].1 l[i].2.data.toList with
   |true=>
    simp -implicitDefEqProofs only [go_sem,Nat.reduceAdd,Nat.reduceMul,Nat.reduceEqDiff,Nat.reduceLT,Nat.reduceLeDiff,reduceCtorEq,hwk];exact⟨⟨i+1,hA,Zev hA hall hs⟩,by simp only;omega,Qa3 (by simp [Qac,lkp,ren1,ren0])⟩
   |false=>
    have e:Qv8 l=false:=by unfold Qv8 Qzc;rw [Q6u hA hs];rfl
    simp -implicitDefEqProofs only [go_sem,Nat.reduceAdd,Nat.reduceMul,Nat.reduceEqDiff,Nat.reduceLT,Nat.reduceLeDiff,reduceCtorEq,e]
  ·have hA':=ltF hA;rw [List.take_of_length_le (by omega)]at hall;have e0:Qv8 l=(decide (l.length≤25)&&topB l):=by unfold Qv8 Qzc;rw [hall,Bool.true_and]
   rw [e0];by_cases h25:l.length≤25
   ·have h25':((l.length:Int)≤25)=True:=by simp only [eq_iff_iff,iff_true];omega
    rw [decide_eq_true h25,Bool.true_and];by_cases hz:l.length=0
    ·have hz':((l.length:Int)==0)=true:=by rw [hz];rfl
     have ht:topB l=true:=by rw [List.length_eq_zero_iff.1 hz];rfl
     repeat (first|(simp -implicitDefEqProofs only [go_sem,Nat.reduceAdd,Nat.reduceMul,Nat.reduceEqDiff,Nat.reduceLT,Nat.reduceLeDiff,reduceCtorEq,hA',h25',hz',ht,List.length_map]))
    ·have hz':((l.length:Int)==0)=false:=by simp only [beq_eq_false_iff_ne,ne_eq];omega
     have hlt:l.length-1<l.length:=by omega
     have hg:=Zmj l (l.length-1) hlt;have hwm:IntKind.i64.wrap ((l.length:Int)-1)=((l.length-1:Nat):Int):=by rw [Qag (by omega) (by omega)];omega
     have h0:=nnT (l.length-1);have hv:=List.all_eq_true.1 hall _ (List.getElem_mem hlt);have hsg:=Za3 l[l.length-1].1 l[l.length-1].2 hv (hs2 _ (List.getElem_mem hlt));have e5:((wnum l[l.length-1].1 l[l.length-1].2).sign != 0)=topB l:=by
      rw [Qtv hlt,bne,Bool.eq_iff_iff];simp only [Bool.not_eq_true',beq_eq_false_iff_ne,ne_eq,Int.sign_eq_zero_iff_zero,decide_eq_true_eq];rw [Qib];constructor
      ·intro h;refine Nat.pos_of_ne_zero fun e=>h ?_;exact Zdt (List.length_eq_zero_iff.1 e)
      ·intro h;exact Znw hv (fun e=>by rw [e]at h;exact absurd h (by decide))
     repeat (first|(simp -implicitDefEqProofs only [go_sem,Nat.reduceAdd,Nat.reduceMul,Nat.reduceEqDiff,Nat.reduceLT,Nat.reduceLeDiff,reduceCtorEq,hA',h25',hz',hwm,h0,hg,e5,List.length_map,Int.toNat_natCast])|((with_reducible refine Qaa hsg ?_ ?_ ?_);rfl;rfl))
   ·have h25':((l.length:Int)≤25)=False:=by simp only [eq_iff_iff,iff_false];omega
    rw [decide_eq_false h25,Bool.false_and];repeat (first|(simp -implicitDefEqProofs only [go_sem,Nat.reduceAdd,Nat.reduceMul,Nat.reduceEqDiff,Nat.reduceLT,Nat.reduceLeDiff,reduceCtorEq,hA',h25',List.length_map]))
end Go.Proofs.YtjlkapdmgjocdaaGreat

namespace Go.Proofs.YtjlkapdmgjocdaaGreat
open Go.Vl Go.RowKit Go.Dg
end Go.Proofs.YtjlkapdmgjocdaaGreat

namespace Go.Proofs.YtjlkapdmgjocdaaGreat
open Go.Vl Go.RowKit Go.Dg
theorem Qec {xs:List Int} {i:Nat} (h:i<xs.length):xs.getD i 0=xs[i]:=by rw [List.getD_eq_getElem?_getD,List.getElem?_eq_getElem h];rfl
end Go.Proofs.YtjlkapdmgjocdaaGreat

namespace Go.Proofs.YtjlkapdmgjocdaaGreat
open Go.Vl Go.RowKit Go.Dg
theorem Qmd {n:Nat} (h:0<n) (hn:n<9223372036854775808):IntKind.i64.wrap ((n:Int)-1)=((n-1:Nat):Int):=by rw [Qag (by omega) (by omega)];omega
def Qa8 (l:List Int):PV:= .slc (l.map (PV.int .i64))
theorem Qfc (l:List Int) (i:Nat) (h:i<l.length):(l.map (PV.int .i64))[i]? =some (.int .i64 l[i]):=by rw [List.getElem?_map,List.getElem?_eq_getElem h];rfl
theorem map_take {α β:Type} (f:α→β) (l:List α) (i:Nat) (hi:i<l.length):(l.take (i+1)).map f=(l.take i).map f++[f l[i]]:=by rw [Qcb l i hi,List.map_append];rfl
end Go.Proofs.YtjlkapdmgjocdaaGreat

namespace Go.Proofs.YtjlkapdmgjocdaaGreat
open Go.Vl Go.RowKit Go.Dg
end Go.Proofs.YtjlkapdmgjocdaaGreat

namespace Go.Proofs.YtjlkapdmgjocdaaGreat
open Go.Vl Go.RowKit Go.Dg
theorem Qgu {x y:Int} (hx:x.natAbs<2^65536) (hy:y.natAbs<2^65536) (h:(x+y).natAbs<2^65536):Qaf Tryz.prog 46 [wPV x,wPV y] (wPV (x+y)):=by
 have h1:=Zmi hx hy;rw [Qjb h]at h1;generalize x+y=S at*;refine Qab (tb:=[]) 14 [.cell 4 93] [0,1,2,3,4,5] mixed Tryz.func46 rfl (by kernel_rfl) (by kernel_rfl) (by kernel_rfl) (by kernel_rfl) ?_;repeat (first|(simp -implicitDefEqProofs only [go_sem,Nat.reduceAdd,Nat.reduceMul,Nat.reduceEqDiff,Nat.reduceLT,Nat.reduceLeDiff,reduceCtorEq,wPV])|((with_reducible refine Qaa h1 ?_ ?_ ?_);rfl;rfl))
theorem Qgv {x y:Int} (hx:x.natAbs<2^65536) (hy:y.natAbs<2^65536) (h:(x*y).natAbs<2^65536):Qaf Tryz.prog 83 [wPV x,wPV y] (wPV (x*y)):=by
 have h1:=Zmh hx hy;rw [Qjb h]at h1;generalize x*y=S at*;refine Qab (tb:=[]) 14 [.cell 4 93] [0,1,2,3,4,5] mixed Tryz.func83 rfl (by kernel_rfl) (by kernel_rfl) (by kernel_rfl) (by kernel_rfl) ?_;repeat (first|(simp -implicitDefEqProofs only [go_sem,Nat.reduceAdd,Nat.reduceMul,Nat.reduceEqDiff,Nat.reduceLT,Nat.reduceLeDiff,reduceCtorEq,wPV])|((with_reducible refine Qaa h1 ?_ ?_ ?_);rfl;rfl))
theorem Zoo {a b K:Nat} (ha:a<K) (hb:b<K):Nat.gcd a b<K:=by
 rcases Nat.eq_zero_or_pos a with h|h
 ·subst h;rw [Nat.gcd_zero_left];exact hb
 ·exact Nat.lt_of_le_of_lt (Nat.le_of_dvd h (Nat.gcd_dvd_left _ _)) ha
theorem Qpr {x y:Int} (hx:x.natAbs<2^65536) (hy:y.natAbs<2^65536):Qaf Tryz.prog 82 [wPV x,wPV y] (wPV ((Nat.gcd x.natAbs y.natAbs:Nat):Int)):=by
 have h1:=Zvt hx hy;rw [Qjb (by rw [Int.natAbs_natCast];exact Zoo hx hy)]at h1;generalize ((Nat.gcd x.natAbs y.natAbs:Nat):Int)=S at*;refine Qab (tb:=[]) 14 [.cell 4 93] [0,1,2,3,4,5] mixed Tryz.func82 rfl (by kernel_rfl) (by kernel_rfl) (by kernel_rfl) (by kernel_rfl) ?_;repeat (first|(simp -implicitDefEqProofs only [go_sem,Nat.reduceAdd,Nat.reduceMul,Nat.reduceEqDiff,Nat.reduceLT,Nat.reduceLeDiff,reduceCtorEq,wPV])|((with_reducible refine Qaa h1 ?_ ?_ ?_);rfl;rfl))
theorem Q6d {n:Int} (h:n.natAbs<2^65536):outN n=n:=by rw [outN,if_neg (Nat.not_lt.2 (Qds 65536 _ h))]
theorem Qy8 {x y:Int} {B:Nat} (hx:x.natAbs<2^B) (hy:0<y):(x/y).natAbs<2^B∨(x/y).natAbs≤2^B:=by
 right;obtain⟨m,rfl⟩: ∃m:Nat,y=(m+1:Nat):=⟨y.toNat-1,by omega⟩;have:=Int.natAbs_ediv_le_natAbs x ((m+1:Nat):Int);omega
theorem Qi9 {x y:Int} {B:Nat} (hx:x.natAbs<2^B) (hB:B≤65000) (hy:y.natAbs<2^65000) (h0:0<y):Qaf Tryz.prog 45 [wPV x,wPV y] (wPV (x/y)):=by
 have h1:=Zvw (Qap hx (by omega)) (Qap hy (by omega)) (show y≠0 by omega);have hq:(x/y).natAbs<2^(B+1):=by
  rw [Nat.pow_succ];have h2:0<2^B:=Nat.two_pow_pos B;rcases Qy8 hx h0 with h|h<;>omega
 have hr:(x%y).natAbs<2^65000:=by
  have h2:=Int.emod_nonneg x (show y≠0 by omega);have h3:=Int.emod_lt_of_pos x h0;generalize 2^65000=K at*;omega
 unfold Zki at h1;rw [Q6d (Qap hq (by omega)),Q6d (Qap hr (by omega))]at h1;generalize x/y=S at*;generalize x%y=R at*;refine Qab (tb:=[]) 16 [.cell 4 93] [0,1,2,3,4,5] mixed Tryz.func45 rfl (by kernel_rfl) (by kernel_rfl) (by kernel_rfl) (by kernel_rfl) ?_;repeat (first|(simp -implicitDefEqProofs only [go_sem,Nat.reduceAdd,Nat.reduceMul,Nat.reduceEqDiff,Nat.reduceLT,Nat.reduceLeDiff,reduceCtorEq,wPV])|((with_reducible refine Qaa h1 ?_ ?_ ?_);rfl;rfl))
theorem Qtp {n:Int} {B:Nat} (h:n.natAbs<2^B) (k:Nat):(n^k).natAbs<2^(B*k+1):=Qb8 h k
theorem Qdl (n:Int) (k B:Nat) (hn: -9223372036854775808≤n) (hn2:n≤9223372036854775807) (hk:k≤100) (hB:B≤600) (hb:n.natAbs<2^B):Qaf Tryz.prog 84 [.int .i64 n,.int .i64 (k:Int)] (wPV (n^k)):=by
 have h1:=Qfi 1 (by decide) (by decide);have h2:=Qfi n hn hn2;refine Qab (tb:=[]) 16 [.cell 4 93] [0,1,4,5,7,8,9] mixed Tryz.func84 rfl (by kernel_rfl) (by kernel_rfl) (by kernel_rfl) (by kernel_rfl) ?_;repeat (first|(simp -implicitDefEqProofs only [go_sem,Nat.reduceAdd,Nat.reduceMul,Nat.reduceEqDiff,Nat.reduceLT,Nat.reduceLeDiff,reduceCtorEq,Int.reduceLT,wPV])|((with_reducible refine Qaa h1 ?_ ?_ ?_);rfl;rfl))
 refine Qar mixed (fun i:{i:Nat // i≤k}=>St.of [(0,.int .i64 n),(4,.bp 0 2 0 0),(5,.bp 101 2 0 0),(7,.int .i64 (k:Int)),(8,.int .i64 (i.1:Int))]
  [(0,{els:=[.agg [.bool false,.str ⟨#[]⟩]],esz:=2,ety:=93,fro:=0,live:=true,arr:=false}),(101,{els:=[wPV (n^i.1)],esz:=2,ety:=93,fro:=0,live:=true,arr:=false})]) (fun i=>k-i.1) ⟨0,Nat.zero_le _⟩ ?_ ?_
 ·refine Qaj (θ:=[(0,0),(101,101)]) rfl ?_ ?_
  ·simp [Qac,lkp,ren1,ren0,Qai]
  ·refine⟨⟨rfl,rfl,rfl,rfl,rfl,.inr ⟨rfl,_,_,rfl,rfl,rfl,rfl⟩⟩,⟨rfl,rfl,rfl,rfl,rfl,.inr ⟨rfl,_,_,rfl,rfl,?_,rfl⟩⟩,trivial⟩;simp only [Int.pow_zero];rfl
 ·rintro⟨i,hi⟩;by_cases hA:i<k
  ·have hA':=ltT hA;have hwk:=Qan (a:=i) (by omega);have hp:=Qtp hb i;have hp1:=Qtp hb (i+1);have hBk:B*(i+1)≤600*100:=Nat.mul_le_mul hB (by omega);have hBi:B*i≤B*(i+1):=Nat.mul_le_mul_left _ (by omega);have e:n^(i+1)=n^i*n:=Int.pow_succ n i;rw [e]at hp1;have hm:=Qgv (Qap hp (by omega)) (Qap hb (by omega)) (Qap hp1 (by omega));rw [←e]at hm;generalize hX:n^(i+1)=Y at*;generalize n^i=Z at*;repeat (first|(simp -implicitDefEqProofs only [go_sem,Nat.reduceAdd,Nat.reduceMul,Nat.reduceEqDiff,Nat.reduceLT,Nat.reduceLeDiff,reduceCtorEq,wPV,hA',hwk])|((with_reducible refine Qaa h2 ?_ ?_ ?_);rfl;rfl)|((with_reducible refine Qaa hm ?_ ?_ ?_);rfl;rfl)|(with_reducible refine And.intro (Qae _ _ (by kernel_rfl)) ?_))
   refine⟨⟨i+1,hA⟩,by simp only;omega,Qaj (θ:=[(0,0),(101,101)]) rfl ?_ ?_⟩
   ·simp [Qac,lkp,ren1,ren0,Qai]
   ·simp only [hX];exact⟨⟨rfl,rfl,rfl,rfl,rfl,.inr ⟨rfl,_,_,rfl,rfl,rfl,rfl⟩⟩,⟨rfl,rfl,rfl,rfl,rfl,.inr ⟨rfl,_,_,rfl,rfl,rfl,rfl⟩⟩,trivial⟩
  ·have hA':=ltF hA;obtain rfl:i=k:=by omega
   generalize n^i=Z at*;repeat (first|(simp -implicitDefEqProofs only [go_sem,Nat.reduceAdd,Nat.reduceMul,Nat.reduceEqDiff,Nat.reduceLT,Nat.reduceLeDiff,reduceCtorEq,wPV,hA']))
end Go.Proofs.YtjlkapdmgjocdaaGreat

namespace Go.Proofs.YtjlkapdmgjocdaaGreat
open Go.Vl Go.RowKit Go.Dg
def Qrj:List PV:=(List.range 36).map fun i=> .int .i64 (bin (i/6) (i%6):Int)
set_option maxHeartbeats 8000000 in
set_option maxRecDepth 100000 in
theorem Q6i:Qaf Tryz.prog 100 [] (.agg Qrj):=by
 have hw:Qrj=[1,0,0,0,0,0,1,1,0,0,0,0,1,2,1,0,0,0,1,3,3,1,0,0,1,4,6,4,1,0,1,5,10,10,5,1].map (PV.int .i64):=by kernel_rfl
 rw [hw];have h6:((6:Nat):Int)=6:=rfl;have w0:IntKind.i64.wrap 0=0:=rfl;have w1:IntKind.i64.wrap 1=1:=rfl;have w2:IntKind.i64.wrap 2=2:=rfl;have w3:IntKind.i64.wrap 3=3:=rfl;have w4:IntKind.i64.wrap 4=4:=rfl;have w5:IntKind.i64.wrap 5=5:=rfl;have w6:IntKind.i64.wrap 6=6:=rfl;have w7:IntKind.i64.wrap 7=7:=rfl;have w8:IntKind.i64.wrap 8=8:=rfl;have w9:IntKind.i64.wrap 9=9:=rfl;have w10:IntKind.i64.wrap 10=10:=rfl;refine Qab (tb:=[]) 35 [.cell 0 168] [0,1,2,3,4,5,12] mixed Tryz.func100 rfl (by kernel_rfl) (by kernel_rfl) (by kernel_rfl) (by kernel_rfl) ?_;repeat (first|(simp -implicitDefEqProofs only [go_sem,Nat.reduceAdd,Nat.reduceMul,Nat.reduceEqDiff,Nat.reduceLT,Nat.reduceLeDiff,reduceCtorEq]))
 iterate 7
  refine Ztw mixed [0,1,2,3,4,5,6] ?_;repeat (first|(simp -implicitDefEqProofs only [go_sem,Nat.reduceAdd,Nat.reduceMul,Nat.reduceEqDiff,Nat.reduceLT,Nat.reduceLeDiff,reduceCtorEq,Int.reduceLE,Int.reduceLT,Int.reduceToNat,Int.reduceAdd,Int.reduceSub,h6,w0,w1,w2,w3,w4,w5,w6,w10])|(with_reducible exact Qae _ _ (by kernel_rfl))|(with_reducible refine And.intro (Qae _ _ (by kernel_rfl)) ?_))
theorem Qts (n k:Nat) (hn:n<6) (hk:k<6):Qrj[n*6+k*1]? =some (.int .i64 (bin n k:Int)):=by
 unfold Qrj;rw [List.getElem?_map,List.getElem?_range (by omega)];have h1:(n*6+k*1)/6=n:=by omega
 have h2:(n*6+k*1)%6=k:=by omega
 show some (PV.int .i64 (bin ((n*6+k*1)/6) ((n*6+k*1)%6):Int))=_;rw [h1,h2]
theorem Q0y:Qrj.all Qw8=true:=by kernel_rfl
theorem Zeo:Qrj.all PV.okCell=true:=by kernel_rfl
theorem Q6j:Qrj.length=36:=by kernel_rfl
theorem Zvj:wPV 0= .agg [.bool false,.str ⟨#[]⟩]:=by unfold wPV;rw [(Qrp 0).2 rfl];rfl
theorem Q6k (c:List Int) (o:Int) (h1:1≤c.length) (h6:c.length≤6) (hc: ∀x∈c, -9223372036854775808≤x∧x≤9223372036854775807) (ho:1≤o) (ho2:o≤4294967296):
  Qaf Tryz.prog 81 [Qa8 c,.int .i64 o] (.bool (Qej c o c.length)):=by
 have hch:=Q6i;have w1:=Qfi 62914560 (by decide) (by decide);have w2:=Qfi o (by omega) (by omega);have p64:(2:Nat)^64=18446744073709551616:=rfl;have b1:(62914560:Int).natAbs<2^64:=by decide
 have b2:o.natAbs<2^64:=by omega
 have b3:(62914560*o).natAbs<2^128:=Qja b1 b2;have m1:=Qgv (Qap b1 (by decide)) (Qap b2 (by decide)) (Qap b3 (by decide));have hcb:bd 64 c:=fun x hx=>by have:=hc x hx;omega
 have wl:=Qmd (n:=c.length) (by omega) (by omega);generalize hM:62914560*o=M at*;refine Qab (tb:=[]) 57 [.tmp 4] [0,1,4,5,6,7,8,9,10,20,21,22,25,26,27,55] mixed Tryz.func81 rfl (by kernel_rfl) (by kernel_rfl) (by kernel_rfl) (by kernel_rfl) ?_;repeat (first|(simp -implicitDefEqProofs only [go_sem,Nat.reduceAdd,Nat.reduceMul,Nat.reduceEqDiff,Nat.reduceLT,Nat.reduceLeDiff,reduceCtorEq,Int.reduceLT,wPV,Qa8,List.length_map,wl,Q6j,Q0y,Zeo])|((with_reducible refine Qaa hch ?_ ?_ ?_);rfl;rfl)|((with_reducible refine Qaa w1 ?_ ?_ ?_);rfl;rfl)|((with_reducible refine Qaa w2 ?_ ?_ ?_);rfl;rfl)|((with_reducible refine Qaa m1 ?_ ?_ ?_);rfl;rfl))
 refine Qar mixed (fun j:{j:Nat // j≤c.length∧Qej c o j=true}=>St.of [(0,Qa8 c),(4,.bool false),(5,.bp 101 36 0 0),(6,.bp 204 2 0 0),(7,.int .i64 ((c.length-1:Nat):Int)),(20,.int .i64 (c.length:Int)),(21,.int .i64 (j.1:Int))]
  [(101,{els:=[.agg Qrj],esz:=36,ety:=168,fro:=0,live:=true,arr:=false}),(204,{els:=[wPV M],esz:=2,ety:=93,fro:=0,live:=true,arr:=false})]) (fun j=>c.length-j.1) ⟨0,Nat.zero_le _,rfl⟩ ?_ ?_
 ·refine Qaj (θ:=[(101,101),(204,204)]) rfl ?_ ?_
  ·simp [Qac,lkp,ren1,ren0,Qai,Qa8]
  ·exact⟨⟨rfl,rfl,rfl,rfl,rfl,.inr ⟨rfl,_,_,rfl,rfl,rfl,rfl⟩⟩,⟨rfl,rfl,rfl,rfl,rfl,.inr ⟨rfl,_,_,rfl,rfl,rfl,rfl⟩⟩,trivial⟩
 ·rintro⟨j,hj,hall⟩;by_cases hA:j<c.length
  ·have hA':=ltT hA;have hwk:=Qan (a:=j) (by omega);repeat (first|(simp -implicitDefEqProofs only [go_sem,Nat.reduceAdd,Nat.reduceMul,Nat.reduceEqDiff,Nat.reduceLT,Nat.reduceLeDiff,reduceCtorEq,hA',hwk]))
   refine Qar mixed (fun k:{k:Nat // k≤j+1}=>St.of [(0,Qa8 c),(4,.bool false),(5,.bp 101 36 0 0),(6,.bp 204 2 0 0),(7,.int .i64 ((c.length-1:Nat):Int)),(20,.int .i64 (c.length:Int)),(21,.int .i64 (j:Int)),(8,.int .i64 (j:Int)),(9,.bp 700 2 0 0),(25,.int .i64 ((j+1:Nat):Int)),(26,.int .i64 (k.1:Int))]
    [(101,{els:=[.agg Qrj],esz:=36,ety:=168,fro:=0,live:=true,arr:=false}),(204,{els:=[wPV M],esz:=2,ety:=93,fro:=0,live:=true,arr:=false}),(700,{els:=[wPV (sm (fun k=>c.getD k 0*(cw (c.length-1) j k:Int)) k.1)],esz:=2,ety:=93,fro:=0,live:=true,arr:=false})]) (fun k=>j+1-k.1) ⟨0,Nat.zero_le _⟩ ?_ ?_
   ·refine Qaj (θ:=[(101,101),(204,204),(700,700)]) rfl ?_ ?_
    ·simp [Qac,lkp,ren1,ren0,Qai,Qa8]
    ·refine⟨⟨rfl,rfl,rfl,rfl,rfl,.inr ⟨rfl,_,_,rfl,rfl,rfl,rfl⟩⟩,⟨rfl,rfl,rfl,rfl,rfl,.inr ⟨rfl,_,_,rfl,rfl,rfl,rfl⟩⟩,⟨rfl,rfl,rfl,rfl,rfl,.inr ⟨rfl,_,_,rfl,rfl,?_,rfl⟩⟩,trivial⟩;simp only [sm];rw [Zvj];rfl
   ·rintro⟨k,hk⟩;by_cases hB:k<j+1
    ·have hB':=ltT hB;have hkc:k<c.length:=by omega
     have h0:=nnT k;have hg:=Qfc c k hkc;have hwk2:=Qan (a:=k) (by omega);have g1:=Qts (c.length-1) k (by omega) (by omega);have g2:=Qts j k (by omega) (by omega);have hb0:((bin (c.length-1) k:Int)=0)=False:=eq_false (by have:=Qvp (n:=c.length-1) (k:=k) (by omega);omega);have t1:Int.tdiv 60 (bin (c.length-1) k:Int)=((60/bin (c.length-1) k:Nat):Int):=Qww 60 _;have d60:60/bin (c.length-1) k≤60:=Nat.div_le_self _ _;have wk1:IntKind.i64.wrap ((60/bin (c.length-1) k:Nat):Int)=((60/bin (c.length-1) k:Nat):Int):=wrapn (by omega);have hcw:=Zul (c.length-1) j k (by omega);have ecw:((60/bin (c.length-1) k:Nat):Int)*(bin j k:Int)=(cw (c.length-1) j k:Int):=by rw [cw,Int.natCast_mul]
     have wk2:IntKind.i64.wrap (cw (c.length-1) j k:Int)=(cw (c.length-1) j k:Int):=wrapn (by omega);obtain⟨k1,k2⟩:=hc _ (List.getElem_mem hkc);have o1:=Qfi c[k] k1 k2;have o2:=Qfi (cw (c.length-1) j k:Int) (by omega) (by omega);have x1:(c[k]).natAbs<2^64:=hcb _ (List.getElem_mem hkc);have x2:(cw (c.length-1) j k:Int).natAbs<2^11:=by rw [Int.natAbs_natCast];omega
     have m2:=Qgv (Qap x1 (by decide)) (Qap x2 (by decide)) (Qap (Qja x1 x2) (by decide));have y1:=Qq0 (n:=c.length-1) (j:=j) hcb (by omega) k (by omega);have y2:=Qq0 (n:=c.length-1) (j:=j) hcb (by omega) (k+1) (by omega);have es:sm (fun k=>c.getD k 0*(cw (c.length-1) j k:Int)) (k+1)=sm (fun k=>c.getD k 0*(cw (c.length-1) j k:Int)) k+c[k]*(cw (c.length-1) j k:Int):=by simp only [sm];rw [Qec hkc]
     rw [es]at y2;have a1:=Qgu (Qap y1 (by decide)) (Qap (Qja x1 x2) (by decide)) (Qap y2 (by decide));rw [←es]at a1;generalize hX:sm (fun k=>c.getD k 0*(cw (c.length-1) j k:Int)) (k+1)=X at*;generalize sm (fun k=>c.getD k 0*(cw (c.length-1) j k:Int)) k=Y at*;generalize c[k]*(cw (c.length-1) j k:Int)=Z at*;generalize (cw (c.length-1) j k:Int)=V at*;have l1:=ltT (show c.length-1<6 by omega);have l2:=ltT (show k<6 by omega);have l3:=ltT (show j<6 by omega);have n1:=nnT (c.length-1);have n2:=nnT j;repeat (first|(simp -implicitDefEqProofs only [go_sem,Nat.reduceAdd,Nat.reduceMul,Nat.reduceEqDiff,Nat.reduceLT,Nat.reduceLeDiff,reduceCtorEq,Qa8,wPV,hB',h0,l1,l2,l3,n1,n2,hg,hwk2,g1,g2,hb0,t1,wk1,ecw,wk2,Int.toNat_natCast])|((with_reducible refine Qaa o1 ?_ ?_ ?_);rfl;rfl)|((with_reducible refine Qaa o2 ?_ ?_ ?_);rfl;rfl)|((with_reducible refine Qaa m2 ?_ ?_ ?_);rfl;rfl)|((with_reducible refine Qaa a1 ?_ ?_ ?_);rfl;rfl)|(with_reducible refine And.intro (Qae _ _ (by kernel_rfl)) ?_))
     refine⟨⟨k+1,hB⟩,by simp only;omega,Qaj (θ:=[(101,101),(204,204),(700,700)]) rfl ?_ ?_⟩
     ·simp [Qac,lkp,ren1,ren0,Qai,Qa8]
     ·simp only [hX];exact⟨⟨rfl,rfl,rfl,rfl,rfl,.inr ⟨rfl,_,_,rfl,rfl,rfl,rfl⟩⟩,⟨rfl,rfl,rfl,rfl,rfl,.inr ⟨rfl,_,_,rfl,rfl,rfl,rfl⟩⟩,⟨rfl,rfl,rfl,rfl,rfl,.inr ⟨rfl,_,_,rfl,rfl,rfl,rfl⟩⟩,trivial⟩
    ·have hB':=ltF hB;obtain rfl:k=j+1:=by omega
     have ec:sm (fun k=>c.getD k 0*(cw (c.length-1) j k:Int)) (j+1)=ctl c j:=rfl;simp only [ec];have y3:=Qq0 (n:=c.length-1) (j:=j) hcb (by omega) (j+1) (by omega);rw [ec]at y3;have y4:(((ctl c j).natAbs:Nat):Int).natAbs<2^(64+11+7):=by rw [Int.natAbs_natCast];exact y3
     have hcm:=Qpu (Qap y4 (by decide)) (Qap b3 (by decide));have ea:wPV (((ctl c j).natAbs:Nat):Int)= .agg [.bool false,.str ⟨(magL (ctl c j).natAbs).toArray⟩]:=by
      unfold wPV;have:decide ((((ctl c j).natAbs:Nat):Int)<0)=false:=by simp
      rw [this,Int.natAbs_natCast]
     rw [ea]at hcm;by_cases hle:((ctl c j).natAbs:Int)≤M
     ·have hs:((0:Int)<((((ctl c j).natAbs:Nat):Int)-M).sign)=False:=eq_false (by have:=Int.sign_nonpos_iff.2 (show(((ctl c j).natAbs:Nat):Int)-M≤0 by omega);omega);have hn:Qej c o (j+1)=true:=by rw [Qhh,hall,hM];simp [hle]
      generalize ctl c j=X at*;repeat (first|(simp -implicitDefEqProofs only [go_sem,Nat.reduceAdd,Nat.reduceMul,Nat.reduceEqDiff,Nat.reduceLT,Nat.reduceLeDiff,reduceCtorEq,wPV,hB',hs,hwk])|((with_reducible refine Qaa hcm ?_ ?_ ?_);rfl;rfl))
      refine⟨⟨j+1,hA,hn⟩,by simp only;omega,Qaj (θ:=[(101,101),(204,204)]) rfl ?_ ?_⟩
      ·simp [Qac,lkp,ren1,ren0,Qai,Qa8]
      ·exact⟨⟨rfl,rfl,rfl,rfl,rfl,.inr ⟨rfl,_,_,rfl,rfl,rfl,rfl⟩⟩,⟨rfl,rfl,rfl,rfl,rfl,.inr ⟨rfl,_,_,rfl,rfl,rfl,rfl⟩⟩,trivial⟩
     ·have hs:((0:Int)<((((ctl c j).natAbs:Nat):Int)-M).sign)=True:=eq_true (Int.sign_pos_iff.2 (by omega));have hn:Qej c o c.length=false:=Zdg (j:=j+1) (by rw [Qhh,hall,hM];simp;omega) hA;generalize ctl c j=X at*;repeat (first|(simp -implicitDefEqProofs only [go_sem,Nat.reduceAdd,Nat.reduceMul,Nat.reduceEqDiff,Nat.reduceLT,Nat.reduceLeDiff,reduceCtorEq,wPV,hB',hs,hn])|((with_reducible refine Qaa hcm ?_ ?_ ?_);rfl;rfl))
  ·have hA':=ltF hA;obtain rfl:j=c.length:=by omega
   repeat (first|(simp -implicitDefEqProofs only [go_sem,Nat.reduceAdd,Nat.reduceMul,Nat.reduceEqDiff,Nat.reduceLT,Nat.reduceLeDiff,reduceCtorEq,hA',hall]))
end Go.Proofs.YtjlkapdmgjocdaaGreat

namespace Go.Proofs.YtjlkapdmgjocdaaGreat
open Go.Vl Go.RowKit Go.Dg
def i64 (x:Int):Prop:= -9223372036854775808≤x∧x≤9223372036854775807
def sgPV (s:Sg):PV:= .agg [.int .i64 s.f,.int .i64 s.t,.int .i64 s.o,Qa8 s.x,Qa8 s.y,Qa8 s.z]
attribute [go_sem] Qa8 sgPV
structure okSg (s:Sg):Prop where
 f:i64 s.f
 t:i64 s.t
 o:i64 s.o
 c: ∀c∈s.ax,∀x∈c,i64 x
 l: ∀c∈s.ax,c.length≤1000
theorem Qbh {x:Int} (h:i64 x):x.natAbs<2^64:=by unfold i64 at h;have p64:(2:Nat)^64=18446744073709551616:=rfl;omega
theorem Q6p (s:Sg):Qaf Tryz.prog 80 [sgPV s] (.agg [Qa8 s.x,Qa8 s.y,Qa8 s.z]):=by
 unfold sgPV;refine Qab (tb:=[]) 10 [.cell 2 142] [0,1,2] mixed Tryz.func80 rfl (by kernel_rfl) (by kernel_rfl) (by kernel_rfl) (by kernel_rfl) ?_;repeat (first|(simp -implicitDefEqProofs only [go_sem,Nat.reduceAdd,Nat.reduceMul,Nat.reduceEqDiff,Nat.reduceLT,Nat.reduceLeDiff,reduceCtorEq,Qa8,List.map_cons,List.map_nil]))
theorem Zvm (s:Sg) (i:Nat) (h:i<s.ax.length):([.slc (s.x.map (PV.int .i64)),.slc (s.y.map (PV.int .i64)),.slc (s.z.map (PV.int .i64))]:List PV)[i]? =some (.slc ((s.ax[i]).map (PV.int .i64))):=by
 show(s.ax.map Qa8)[i]? =_;rw [List.getElem?_map,List.getElem?_eq_getElem h];rfl
theorem Qv5 (s:Sg) (i:Nat) (h:i<s.ax.length):([.slc (s.x.map (PV.int .i64)),.slc (s.y.map (PV.int .i64)),.slc (s.z.map (PV.int .i64))]:List PV)[i*1]? =some (.slc ((s.ax[i]).map (PV.int .i64))):=by rw [Nat.mul_one,Zvm s i h]
theorem Zvn (x y:Int):(mB x==mB y)=decide (x.natAbs=y.natAbs):=by
 rw [Zvx,Bool.eq_iff_iff,beq_iff_eq,decide_eq_true_eq];constructor
 ·intro h;rw [←Qno x,←Qno y,h]
 ·intro h;unfold mB;rw [h]
theorem Qnm (x y:Int):((decide (x<0)==decide (y<0))&&(mB x==mB y))=decide (x=y):=by
 rw [Zvn,Bool.eq_iff_iff,Bool.and_eq_true,beq_iff_eq,decide_eq_decide,decide_eq_true_eq,decide_eq_true_eq];omega
set_option maxHeartbeats 1000000 in
theorem Zeq (s:Sg) (hs:okSg s):Qaf Tryz.prog 65 [sgPV s] (.bool (Qa7 s)):=by
 obtain⟨⟨a1,a2⟩,⟨a3,a4⟩,⟨a5,a6⟩,hc,hl⟩:=hs;by_cases g1:s.f<0
 ·have g1':=eq_true g1;have e:Qa7 s=false:=by unfold Qa7 rngS;rw [decide_eq_false (by omega)];rfl
  unfold sgPV;refine Qab (tb:=[]) 85 [.tmp 2] [0,1,2,3,5,7,32,37,38,39,69,70,71,72,73] mixed Tryz.func65 rfl (by kernel_rfl) (by kernel_rfl) (by kernel_rfl) (by kernel_rfl) ?_;repeat (first|(simp -implicitDefEqProofs only [go_sem,Nat.reduceAdd,Nat.reduceMul,Nat.reduceEqDiff,Nat.reduceLT,Nat.reduceLeDiff,reduceCtorEq,g1',e]))
 have g1':=eq_false g1;by_cases g2:s.t≤s.f
 ·have g2':=eq_true g2;have e:Qa7 s=false:=by unfold Qa7 rngS;rw [decide_eq_true (show 0≤s.f by omega),decide_eq_false (show¬s.f<s.t by omega)];rfl
  unfold sgPV;refine Qab (tb:=[]) 85 [.tmp 2] [0,1,2,3,5,7,32,37,38,39,69,70,71,72,73] mixed Tryz.func65 rfl (by kernel_rfl) (by kernel_rfl) (by kernel_rfl) (by kernel_rfl) ?_;repeat (first|(simp -implicitDefEqProofs only [go_sem,Nat.reduceAdd,Nat.reduceMul,Nat.reduceEqDiff,Nat.reduceLT,Nat.reduceLeDiff,reduceCtorEq,g1',g2',e]))
 have g2':=eq_false g2;by_cases g3:3600000<s.t
 ·have g3':=eq_true g3;have e:Qa7 s=false:=by unfold Qa7 rngS;rw [decide_eq_true (show 0≤s.f by omega),decide_eq_true (show s.f<s.t by omega),decide_eq_false (show¬s.t≤3600000 by omega)];rfl
  unfold sgPV;refine Qab (tb:=[]) 85 [.tmp 2] [0,1,2,3,5,7,32,37,38,39,69,70,71,72,73] mixed Tryz.func65 rfl (by kernel_rfl) (by kernel_rfl) (by kernel_rfl) (by kernel_rfl) ?_;repeat (first|(simp -implicitDefEqProofs only [go_sem,Nat.reduceAdd,Nat.reduceMul,Nat.reduceEqDiff,Nat.reduceLT,Nat.reduceLeDiff,reduceCtorEq,g1',g2',g3',e]))
 have g3':=eq_false g3;by_cases g4:s.o<1
 ·have g4':=eq_true g4;have e:Qa7 s=false:=by unfold Qa7 rngS;rw [decide_eq_true (show 0≤s.f by omega),decide_eq_true (show s.f<s.t by omega),decide_eq_true (show s.t≤3600000 by omega),decide_eq_false (show¬1≤s.o by omega)];rfl
  unfold sgPV;refine Qab (tb:=[]) 85 [.tmp 2] [0,1,2,3,5,7,32,37,38,39,69,70,71,72,73] mixed Tryz.func65 rfl (by kernel_rfl) (by kernel_rfl) (by kernel_rfl) (by kernel_rfl) ?_;repeat (first|(simp -implicitDefEqProofs only [go_sem,Nat.reduceAdd,Nat.reduceMul,Nat.reduceEqDiff,Nat.reduceLT,Nat.reduceLeDiff,reduceCtorEq,g1',g2',g3',g4',e]))
 have g4':=eq_false g4;by_cases g5:4294967296<s.o
 ·have g5':=eq_true g5;have e:Qa7 s=false:=by unfold Qa7 rngS;rw [decide_eq_true (show 0≤s.f by omega),decide_eq_true (show s.f<s.t by omega),decide_eq_true (show s.t≤3600000 by omega),decide_eq_true (show 1≤s.o by omega),decide_eq_false (show¬s.o≤4294967296 by omega)];rfl
  unfold sgPV;refine Qab (tb:=[]) 85 [.tmp 2] [0,1,2,3,5,7,32,37,38,39,69,70,71,72,73] mixed Tryz.func65 rfl (by kernel_rfl) (by kernel_rfl) (by kernel_rfl) (by kernel_rfl) ?_;repeat (first|(simp -implicitDefEqProofs only [go_sem,Nat.reduceAdd,Nat.reduceMul,Nat.reduceEqDiff,Nat.reduceLT,Nat.reduceLeDiff,reduceCtorEq,g1',g2',g3',g4',g5',e]))
 have g5':=eq_false g5;have er:rngS s=true:=by unfold rngS;rw [decide_eq_true (show 0≤s.f by omega),decide_eq_true (show s.f<s.t by omega),decide_eq_true (show s.t≤3600000 by omega),decide_eq_true (show 1≤s.o by omega),decide_eq_true (show s.o≤4294967296 by omega)];rfl
 have w1:=Qfi s.o a5 a6;have hax:=Q6p s;have hsg:sgPV s= .agg [.int .i64 s.f,.int .i64 s.t,.int .i64 s.o,.slc (s.x.map (PV.int .i64)),.slc (s.y.map (PV.int .i64)),.slc (s.z.map (PV.int .i64))]:=rfl;rw [hsg]at hax ⊢;have wone:=Qfi 1 (by decide) (by decide);have hG: ∀i,((s.ax.take i).foldl gcdL s.o.natAbs)<2^64:=by
  intro i;have: ∀(L:List (List Int)) (g:Nat),g<2^64→(∀c∈L,∀x∈c,x.natAbs<2^64)→L.foldl gcdL g<2^64:=by
   intro L
   induction L with
   |nil=>intro g hg _;exact hg
   |cons c L ih=>intro g hg h;exact ih _ (Qkh c hg (h c (by simp))) fun c' hc'=>h c' (by simp [hc'])
  exact this _ _ (Qbh ⟨a5,a6⟩) fun c hc' x hx=>Qbh (hc c (List.mem_of_mem_take hc') x hx)
 refine Qab (tb:=[]) 85 [.tmp 2] [0,1,2,3,5,7,32,37,38,39,69,70,71,72,73] mixed Tryz.func65 rfl (by kernel_rfl) (by kernel_rfl) (by kernel_rfl) (by kernel_rfl) ?_;repeat (first|(simp -implicitDefEqProofs only [go_sem,Nat.reduceAdd,Nat.reduceMul,Nat.reduceEqDiff,Nat.reduceLT,Nat.reduceLeDiff,reduceCtorEq,wPV,g1',g2',g3',g4',g5'])|((with_reducible refine Qaa w1 ?_ ?_ ?_);rfl;rfl)|((with_reducible refine Qaa hax ?_ ?_ ?_);rfl;rfl))
 have z0:0≤3∧((s.ax.take 0).all fun c=>axOK c s.o)=true:=⟨Nat.zero_le _,rfl⟩;refine Qar mixed (fun i:{i:Nat // i≤3∧((s.ax.take i).all fun c=>axOK c s.o)=true}=>St.of [(1,.bp 0 6 0 0),(2,.bool false),(3,.bp 303 2 0 0),(37,.agg [Qa8 s.x,Qa8 s.y,Qa8 s.z]),(38,.int .i64 (i.1:Int))]
  [(0,{els:=[sgPV s],esz:=6,ety:=91,fro:=0,live:=true,arr:=false}),(303,{els:=[wPV (((s.ax.take i.1).foldl gcdL s.o.natAbs:Nat):Int)],esz:=2,ety:=93,fro:=0,live:=true,arr:=false})]) (fun i=>3-i.1) ⟨0,z0⟩ ?_ ?_
 ·refine Qaj (θ:=[(0,0),(303,303)]) rfl ?_ ?_
  ·simp [Qac,lkp,ren1,ren0,Qai,Qa8]
  ·refine⟨⟨rfl,rfl,rfl,rfl,rfl,.inr ⟨rfl,_,_,rfl,rfl,rfl,rfl⟩⟩,⟨rfl,rfl,rfl,rfl,rfl,.inr ⟨rfl,_,_,rfl,rfl,?_,rfl⟩⟩,trivial⟩;have:((((s.ax.take 0).foldl gcdL s.o.natAbs:Nat):Nat):Int)=s.o:=by simp;omega
   rw [this];rfl
 ·rintro⟨i,hi,hall⟩;have hGi:=hG i;by_cases hA:i<3
  ·have hA':((i:Int)<3)=True:=eq_true (by omega);have hA2:=ltT hA;have h0:=nnT i;have hx:=Qv5 s i hA;have hwk:=Qan (a:=i) (by omega);have hcx:=hc (s.ax[i]) (List.getElem_mem hA);have hlx:=hl (s.ax[i]) (List.getElem_mem hA);have htk:(s.ax.take (i+1)).all (fun c=>axOK c s.o)=axOK s.ax[i] s.o:=by rw [Qcb s.ax i hA,List.all_append,hall];simp
   have hbad:axOK s.ax[i] s.o=false→Qa7 s=false:=fun h=>by
    unfold Qa7;rw [Q6u (p:=fun c=>axOK c s.o) (l:=s.ax) (i:=i) hA h];simp
   have hfd:(s.ax.take (i+1)).foldl gcdL s.o.natAbs=gcdL ((s.ax.take i).foldl gcdL s.o.natAbs) s.ax[i]:=by rw [Qcb s.ax i hA,List.foldl_append];rfl
   generalize hC:s.ax[i]=c at*;generalize (s.ax.take i).foldl gcdL s.o.natAbs=G at*;by_cases q1:c.length<1
   ·have q1':((c.length:Int)<1)=True:=eq_true (by omega);have e:=hbad (by unfold axOK Qm4;rw [decide_eq_false (show¬1≤c.length by omega)];rfl);repeat (first|(simp -implicitDefEqProofs only [go_sem,Nat.reduceAdd,Nat.reduceMul,Nat.reduceEqDiff,Nat.reduceLT,Nat.reduceLeDiff,reduceCtorEq,hA',hA2,h0,hx,Int.toNat_natCast,List.length_map,q1',e]))
   have q1':((c.length:Int)<1)=False:=eq_false (by omega);by_cases q2:6<c.length
   ·have q2':((6:Int)<(c.length:Int))=True:=eq_true (by omega);have e:=hbad (by unfold axOK Qm4;rw [decide_eq_false (show¬c.length≤6 by omega)];simp);repeat (first|(simp -implicitDefEqProofs only [go_sem,Nat.reduceAdd,Nat.reduceMul,Nat.reduceEqDiff,Nat.reduceLT,Nat.reduceLeDiff,reduceCtorEq,hA',hA2,h0,hx,Int.toNat_natCast,List.length_map,q1',q2',e]))
   have q2':((6:Int)<(c.length:Int))=False:=eq_false (by omega);have hbv:=Q6k c s.o (by omega) (by omega) hcx (by omega) (by omega);have hlt:c.length-1<c.length:=by omega
   have wl:=Qmd (n:=c.length) (by omega) (by omega);have hgl:=Qfc c (c.length-1) hlt;have n1:=nnT (c.length-1);have hl0:=Qec hlt
   -- the rest, behind the test of the last coefficient
   have rest:axOK c s.o=Qej c s.o c.length→ ∀(t:Bool),Qej c s.o c.length=t→True:=fun _ _ _=>trivial;by_cases q3:1<c.length
   ·have q3':((1:Int)<(c.length:Int))=True:=eq_true (by omega);by_cases q4:c[c.length-1]=0
    ·have q4':(c[c.length-1]==0)=true:=by rw [q4];rfl
     have e:=hbad (by unfold axOK Qm4;rw [hl0,q4',decide_eq_false (show¬c.length≤1 by omega)];simp);repeat (first|(simp -implicitDefEqProofs only [go_sem,Nat.reduceAdd,Nat.reduceMul,Nat.reduceEqDiff,Nat.reduceLT,Nat.reduceLeDiff,reduceCtorEq,hA',hA2,h0,hx,Int.toNat_natCast,List.length_map,q1',q2',q3',q4',wl,n1,hgl,e]))
    have q4':(c[c.length-1]==0)=false:=by simp only [beq_eq_false_iff_ne,ne_eq];exact q4
    have e1:axOK c s.o=Qej c s.o c.length:=by unfold axOK Qm4;rw [hl0,q4',decide_eq_true (show 1≤c.length by omega),decide_eq_true (show c.length≤6 by omega)];simp
    cases hb:Qej c s.o c.length with
    |false=>
     rw [hb]at hbv e1;have e:=hbad e1;repeat (first|(simp -implicitDefEqProofs only [go_sem,Nat.reduceAdd,Nat.reduceMul,Nat.reduceEqDiff,Nat.reduceLT,Nat.reduceLeDiff,reduceCtorEq,hA',hA2,h0,hx,Int.toNat_natCast,List.length_map,q1',q2',q3',q4',wl,n1,hgl,e])|((with_reducible refine Qaa hbv ?_ ?_ ?_);rfl;rfl))
    |true=>
     rw [hb]at hbv e1;repeat (first|(simp -implicitDefEqProofs only [go_sem,Nat.reduceAdd,Nat.reduceMul,Nat.reduceEqDiff,Nat.reduceLT,Nat.reduceLeDiff,reduceCtorEq,hA',hA2,h0,hx,Int.toNat_natCast,List.length_map,q1',q2',q3',q4',wl,n1,hgl])|((with_reducible refine Qaa hbv ?_ ?_ ?_);rfl;rfl))
     refine Qar mixed (fun k:{k:Nat // k≤c.length}=>St.of [(1,.bp 0 6 0 0),(2,.bool false),(3,.bp 303 2 0 0),(37,.agg [Qa8 s.x,Qa8 s.y,Qa8 s.z]),(38,.int .i64 (i:Int)),(70,Qa8 c),(71,.int .i64 (c.length:Int)),(72,.int .i64 (k.1:Int))]
      [(0,{els:=[sgPV s],esz:=6,ety:=91,fro:=0,live:=true,arr:=false}),(303,{els:=[wPV ((gcdL G (c.take k.1):Nat):Int)],esz:=2,ety:=93,fro:=0,live:=true,arr:=false})]) (fun k=>c.length-k.1) ⟨0,Nat.zero_le _⟩ ?_ ?_
     ·refine Qaj (θ:=[(0,0),(303,303)]) rfl ?_ ?_
      ·simp [Qac,lkp,ren1,ren0,Qai,Qa8]
      ·exact⟨⟨rfl,rfl,rfl,rfl,rfl,.inr ⟨rfl,_,_,rfl,rfl,rfl,rfl⟩⟩,⟨rfl,rfl,rfl,rfl,rfl,.inr ⟨rfl,_,_,rfl,rfl,rfl,rfl⟩⟩,trivial⟩
     ·rintro⟨k,hk⟩;by_cases hB:k<c.length
      ·have hB':=ltT hB;have n0:=nnT k;have hgk:=Qfc c k hB;have hwk2:=Qan (a:=k) (by omega);obtain⟨k1,k2⟩:=hcx _ (List.getElem_mem hB);have o1:=Qfi c[k] k1 k2;have x1:=Qbh (hcx _ (List.getElem_mem hB));have x2:((gcdL G (c.take k):Nat):Int).natAbs<2^64:=by rw [Int.natAbs_natCast];exact Qkh _ hGi fun x hx=>Qbh (hcx x (List.mem_of_mem_take hx))
       have m:=Qpr (Qap x2 (by decide)) (Qap x1 (by decide));rw [Int.natAbs_natCast,←Qi6,←Qcb c k hB]at m;generalize hX:gcdL G (c.take (k+1))=X at*;generalize gcdL G (c.take k)=Y at*;repeat (first|(simp -implicitDefEqProofs only [go_sem,Nat.reduceAdd,Nat.reduceMul,Nat.reduceEqDiff,Nat.reduceLT,Nat.reduceLeDiff,reduceCtorEq,hB',n0,hgk,hwk2,wPV,Int.toNat_natCast])|((with_reducible refine Qaa o1 ?_ ?_ ?_);rfl;rfl)|((with_reducible refine Qaa m ?_ ?_ ?_);rfl;rfl)|(with_reducible refine And.intro (Qae _ _ (by kernel_rfl)) ?_))
       refine⟨⟨k+1,hB⟩,by simp only;omega,Qaj (θ:=[(0,0),(303,303)]) rfl ?_ ?_⟩
       ·simp [Qac,lkp,ren1,ren0,Qai,Qa8]
       ·simp only [hX];exact⟨⟨rfl,rfl,rfl,rfl,rfl,.inr ⟨rfl,_,_,rfl,rfl,rfl,rfl⟩⟩,⟨rfl,rfl,rfl,rfl,rfl,.inr ⟨rfl,_,_,rfl,rfl,rfl,rfl⟩⟩,trivial⟩
      ·have hB':=ltF hB;obtain rfl:k=c.length:=by omega
       repeat (first|(simp -implicitDefEqProofs only [go_sem,Nat.reduceAdd,Nat.reduceMul,Nat.reduceEqDiff,Nat.reduceLT,Nat.reduceLeDiff,reduceCtorEq,hB',hwk]))
       refine⟨⟨i+1,hA,by rw [htk];exact e1⟩,by simp only;omega,Qaj (θ:=[(0,0),(303,303)]) rfl ?_ ?_⟩
       ·simp [Qac,lkp,ren1,ren0,Qai,Qa8]
       ·simp only [hfd];rw [List.take_length];exact⟨⟨rfl,rfl,rfl,rfl,rfl,.inr ⟨rfl,_,_,rfl,rfl,rfl,rfl⟩⟩,⟨rfl,rfl,rfl,rfl,rfl,.inr ⟨rfl,_,_,rfl,rfl,rfl,rfl⟩⟩,trivial⟩
   ·have q3':((1:Int)<(c.length:Int))=False:=eq_false (by omega);have e1:axOK c s.o=Qej c s.o c.length:=by unfold axOK Qm4;rw [decide_eq_true (show 1≤c.length by omega),decide_eq_true (show c.length≤6 by omega),decide_eq_true (show c.length≤1 by omega)];simp
    cases hb:Qej c s.o c.length with
    |false=>
     rw [hb]at hbv e1;have e:=hbad e1;repeat (first|(simp -implicitDefEqProofs only [go_sem,Nat.reduceAdd,Nat.reduceMul,Nat.reduceEqDiff,Nat.reduceLT,Nat.reduceLeDiff,reduceCtorEq,hA',hA2,h0,hx,Int.toNat_natCast,List.length_map,q1',q2',q3',e])|((with_reducible refine Qaa hbv ?_ ?_ ?_);rfl;rfl))
    |true=>
     rw [hb]at hbv e1;repeat (first|(simp -implicitDefEqProofs only [go_sem,Nat.reduceAdd,Nat.reduceMul,Nat.reduceEqDiff,Nat.reduceLT,Nat.reduceLeDiff,reduceCtorEq,hA',hA2,h0,hx,Int.toNat_natCast,List.length_map,q1',q2',q3'])|((with_reducible refine Qaa hbv ?_ ?_ ?_);rfl;rfl))
     refine Qar mixed (fun k:{k:Nat // k≤c.length}=>St.of [(1,.bp 0 6 0 0),(2,.bool false),(3,.bp 303 2 0 0),(37,.agg [Qa8 s.x,Qa8 s.y,Qa8 s.z]),(38,.int .i64 (i:Int)),(70,Qa8 c),(71,.int .i64 (c.length:Int)),(72,.int .i64 (k.1:Int))]
      [(0,{els:=[sgPV s],esz:=6,ety:=91,fro:=0,live:=true,arr:=false}),(303,{els:=[wPV ((gcdL G (c.take k.1):Nat):Int)],esz:=2,ety:=93,fro:=0,live:=true,arr:=false})]) (fun k=>c.length-k.1) ⟨0,Nat.zero_le _⟩ ?_ ?_
     ·refine Qaj (θ:=[(0,0),(303,303)]) rfl ?_ ?_
      ·simp [Qac,lkp,ren1,ren0,Qai,Qa8]
      ·exact⟨⟨rfl,rfl,rfl,rfl,rfl,.inr ⟨rfl,_,_,rfl,rfl,rfl,rfl⟩⟩,⟨rfl,rfl,rfl,rfl,rfl,.inr ⟨rfl,_,_,rfl,rfl,rfl,rfl⟩⟩,trivial⟩
     ·rintro⟨k,hk⟩;by_cases hB:k<c.length
      ·have hB':=ltT hB;have n0:=nnT k;have hgk:=Qfc c k hB;have hwk2:=Qan (a:=k) (by omega);obtain⟨k1,k2⟩:=hcx _ (List.getElem_mem hB);have o1:=Qfi c[k] k1 k2;have x1:=Qbh (hcx _ (List.getElem_mem hB));have x2:((gcdL G (c.take k):Nat):Int).natAbs<2^64:=by rw [Int.natAbs_natCast];exact Qkh _ hGi fun x hx=>Qbh (hcx x (List.mem_of_mem_take hx))
       have m:=Qpr (Qap x2 (by decide)) (Qap x1 (by decide));rw [Int.natAbs_natCast,←Qi6,←Qcb c k hB]at m;generalize hX:gcdL G (c.take (k+1))=X at*;generalize gcdL G (c.take k)=Y at*;repeat (first|(simp -implicitDefEqProofs only [go_sem,Nat.reduceAdd,Nat.reduceMul,Nat.reduceEqDiff,Nat.reduceLT,Nat.reduceLeDiff,reduceCtorEq,hB',n0,hgk,hwk2,wPV,Int.toNat_natCast])|((with_reducible refine Qaa o1 ?_ ?_ ?_);rfl;rfl)|((with_reducible refine Qaa m ?_ ?_ ?_);rfl;rfl)|(with_reducible refine And.intro (Qae _ _ (by kernel_rfl)) ?_))
       refine⟨⟨k+1,hB⟩,by simp only;omega,Qaj (θ:=[(0,0),(303,303)]) rfl ?_ ?_⟩
       ·simp [Qac,lkp,ren1,ren0,Qai,Qa8]
       ·simp only [hX];exact⟨⟨rfl,rfl,rfl,rfl,rfl,.inr ⟨rfl,_,_,rfl,rfl,rfl,rfl⟩⟩,⟨rfl,rfl,rfl,rfl,rfl,.inr ⟨rfl,_,_,rfl,rfl,rfl,rfl⟩⟩,trivial⟩
      ·have hB':=ltF hB;obtain rfl:k=c.length:=by omega
       repeat (first|(simp -implicitDefEqProofs only [go_sem,Nat.reduceAdd,Nat.reduceMul,Nat.reduceEqDiff,Nat.reduceLT,Nat.reduceLeDiff,reduceCtorEq,hB',hwk]))
       refine⟨⟨i+1,hA,by rw [htk];exact e1⟩,by simp only;omega,Qaj (θ:=[(0,0),(303,303)]) rfl ?_ ?_⟩
       ·simp [Qac,lkp,ren1,ren0,Qai,Qa8]
       ·simp only [hfd];rw [List.take_length];exact⟨⟨rfl,rfl,rfl,rfl,rfl,.inr ⟨rfl,_,_,rfl,rfl,rfl,rfl⟩⟩,⟨rfl,rfl,rfl,rfl,rfl,.inr ⟨rfl,_,_,rfl,rfl,rfl,rfl⟩⟩,trivial⟩
  ·have hA':((i:Int)<3)=False:=eq_false (by omega);obtain rfl:i=3:=by omega
   have et:s.ax.take 3=s.ax:=rfl;have e:Qa7 s=((s.ax.take 3).foldl gcdL s.o.natAbs==1):=by rw [et]at hall ⊢;unfold Qa7;rw [er,hall];simp
   rw [e];simp only;generalize (s.ax.take 3).foldl gcdL s.o.natAbs=G at*;repeat (first|(simp -implicitDefEqProofs only [go_sem,Nat.reduceAdd,Nat.reduceMul,Nat.reduceEqDiff,Nat.reduceLT,Nat.reduceLeDiff,Nat.reduceSub,reduceCtorEq,Int.reduceLT,hA',wPV])|((with_reducible refine Qaa wone ?_ ?_ ?_);rfl;rfl)|(with_reducible refine And.intro (Qae _ _ (by kernel_rfl)) ?_))
   have h1:=Qnm (G:Int) 1;have h2:decide ((1:Int)<0)=false:=rfl;rw [h2]at h1;have h3:(decide ((G:Int)<0)==false)= !decide ((G:Int)<0):=by cases decide ((G:Int)<0)<;>rfl
   rw [h3]at h1;rw [h1];congr 1;rw [Bool.eq_iff_iff,decide_eq_true_eq,beq_iff_eq];omega
end Go.Proofs.YtjlkapdmgjocdaaGreat

namespace Go.Proofs.YtjlkapdmgjocdaaGreat
open Go.Vl Go.RowKit Go.Dg
end Go.Proofs.YtjlkapdmgjocdaaGreat
