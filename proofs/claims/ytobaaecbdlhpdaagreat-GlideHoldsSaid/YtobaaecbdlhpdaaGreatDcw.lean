/-
  TM8s, Dgl, Dgm, UXS, UX2, UYD, TF1, TF2, TF3, Dv, Dy, Dcv, Dsp, Dcw (merged for the claim).
-/
import Derived.Test.YtobaaecbdlhpdaaGreatTM9
import Derived.Test.YtobaaecbdlhpdaaGreatTM4
import Derived.Test.YtobaaecbdlhpdaaGreatUC
import Derived.Test.YtobaaecbdlhpdaaGreatTW2
import Derived.Test.YtobaaecbdlhpdaaGreatTM25
import Derived.Test.YtobaaecbdlhpdaaGreatUZ
set_option linter.unusedSimpArgs false
set_option linter.unusedVariables false
namespace Go.Proofs.YtobaaecbdlhpdaaGreat
open Go.Vl Go.RowKit Go.Dg
theorem Qud (a b:List Sg) (ha:lenP a) (hb:lenP b):Qaf Tryz.prog 10 [Qb0 a,Qb0 b] (.bool (Qx7 a b)):=by
 have la:=ha.1;have lb:=hb.1;by_cases hl:a.length=b.length
 case neg=>
  have n1:((a.length:Int) != (b.length:Int))=true:=by simp only [bne_iff_ne,ne_eq];omega
  unfold Qx7;rw [decide_eq_false hl,Bool.false_and];refine Qac (tb:=[]) 27 [.tmp 4] [0,1,4,5,10,14,26] mixed Tryz.func10 rfl (by kernel_rfl) (by kernel_rfl) (by kernel_rfl) (by kernel_rfl) ?_;repeat (first|(simp -implicitDefEqProofs only [go_sem,Nat.reduceAdd,Nat.reduceMul,Nat.reduceEqDiff,Nat.reduceLT,Nat.reduceLeDiff,Nat.reduceSub,Nat.reduceBEq,reduceIte,reduceCtorEq,Int.reduceEq,Int.reduceNe,Nat.reduceBneDiff,Int.reduceLE,Int.reduceLT,Int.reduceToNat,Int.reduceAdd,Int.reduceSub,Int.reduceMul,Int.reduceNeg,List.length_map,n1])|(with_reducible exact Qaa _ _ (by kernel_rfl))|(with_reducible refine And.intro (Qaa _ _ (by kernel_rfl)) ?_))
 have n1:((a.length:Int) != (b.length:Int))=false:=by rw [hl];simp
 have e0:Qx7 a b=Qgb a b a.length:=by unfold Qx7;rw [decide_eq_true hl,Bool.true_and]
 rw [e0];refine Qac (tb:=[]) 27 [.tmp 4] [0,1,4,5,10,14,26] mixed Tryz.func10 rfl (by kernel_rfl) (by kernel_rfl) (by kernel_rfl) (by kernel_rfl) ?_;repeat (first|(simp -implicitDefEqProofs only [go_sem,Nat.reduceAdd,Nat.reduceMul,Nat.reduceEqDiff,Nat.reduceLT,Nat.reduceLeDiff,Nat.reduceSub,Nat.reduceBEq,reduceIte,reduceCtorEq,Int.reduceEq,Int.reduceNe,Nat.reduceBneDiff,Int.reduceLE,Int.reduceLT,Int.reduceToNat,Int.reduceAdd,Int.reduceSub,Int.reduceMul,Int.reduceNeg,List.length_map,n1])|(with_reducible exact Qaa _ _ (by kernel_rfl))|(with_reducible refine And.intro (Qaa _ _ (by kernel_rfl)) ?_))
 have z0:0≤a.length∧Qgb a b 0=true:=⟨Nat.zero_le _,rfl⟩;refine Qa4 mixed (fun i:{i:Nat // i≤a.length∧Qgb a b i=true}=>St.of [(0,Qb0 a),(1,Qb0 b),(4,.bool false),(5,.int .i64 (i.1:Int))] []) (fun i=>a.length-i.1) ⟨0,z0⟩ ?_ ?_
 ·exact Qa3 (by simp [Qae,lkp,ren1,ren0,Qb0])
 ·rintro⟨i,hi,hall⟩;by_cases hA:i<a.length
  ·have hA':=ltT hA;have n0:=nnT i;have hB:i<b.length:=by omega
   have g1:=Qfh a i hA;have g2:=Qfh b i hB;have hwk:=Qak (a:=i) (by omega);have hs:=Qpv a[i] b[i] (ha.2 _ (List.getElem_mem hA)) (hb.2 _ (List.getElem_mem hB));have es:Qnh (a.getD i sg0) (b.getD i sg0)=Qnh a[i] b[i]:=by rw [sgD hA,sgD hB]
   unfold sgPV Qa2 at hs;cases hx:Qnh a[i] b[i]with
   |true=>
    rw [hx]at hs;have hn:Qgb a b (i+1)=true:=by rw [Qt1,hall,es,hx];rfl
    repeat (first|(simp -implicitDefEqProofs only [go_sem,Nat.reduceAdd,Nat.reduceMul,Nat.reduceEqDiff,Nat.reduceLT,Nat.reduceLeDiff,Nat.reduceSub,Nat.reduceBEq,reduceIte,reduceCtorEq,Int.reduceEq,Int.reduceNe,Nat.reduceBneDiff,Int.reduceLE,Int.reduceLT,Int.reduceToNat,Int.reduceAdd,Int.reduceSub,Int.reduceMul,Int.reduceNeg,hA',n0,g1,g2,hwk,Int.toNat_natCast,List.length_map])|((with_reducible refine Qab hs ?_ ?_ ?_);rfl;rfl)|(with_reducible exact Qaa _ _ (by kernel_rfl))|(with_reducible refine And.intro (Qaa _ _ (by kernel_rfl)) ?_))
    refine⟨⟨i+1,hA,hn⟩,by simp only;omega,Qa3 (by simp [Qae,lkp,ren1,ren0,Qb0])⟩
   |false=>
    rw [hx]at hs;rw [Qx8 (es.trans hx) hA];repeat (first|(simp -implicitDefEqProofs only [go_sem,Nat.reduceAdd,Nat.reduceMul,Nat.reduceEqDiff,Nat.reduceLT,Nat.reduceLeDiff,Nat.reduceSub,Nat.reduceBEq,reduceIte,reduceCtorEq,Int.reduceEq,Int.reduceNe,Nat.reduceBneDiff,Int.reduceLE,Int.reduceLT,Int.reduceToNat,Int.reduceAdd,Int.reduceSub,Int.reduceMul,Int.reduceNeg,hA',n0,g1,g2,Int.toNat_natCast,List.length_map])|((with_reducible refine Qab hs ?_ ?_ ?_);rfl;rfl)|(with_reducible exact Qaa _ _ (by kernel_rfl))|(with_reducible refine And.intro (Qaa _ _ (by kernel_rfl)) ?_))
  ·have hA':=ltF hA;obtain rfl:i=a.length:=by omega
   repeat (first|(simp -implicitDefEqProofs only [go_sem,Nat.reduceAdd,Nat.reduceMul,Nat.reduceEqDiff,Nat.reduceLT,Nat.reduceLeDiff,Nat.reduceSub,Nat.reduceBEq,reduceIte,reduceCtorEq,Int.reduceEq,Int.reduceNe,Nat.reduceBneDiff,Int.reduceLE,Int.reduceLT,Int.reduceToNat,Int.reduceAdd,Int.reduceSub,Int.reduceMul,Int.reduceNeg,hA',hall,List.length_map])|(with_reducible exact Qaa _ _ (by kernel_rfl))|(with_reducible refine And.intro (Qaa _ _ (by kernel_rfl)) ?_))
end Go.Proofs.YtobaaecbdlhpdaaGreat

namespace Go.Dg
structure V3 where
 x:Int
 y:Int
 z:Int
deriving DecidableEq
def v0:V3:=⟨0,0,0⟩
def inB (n:Int):Bool:= !(decide (n< -1048576)||decide (1048576<n))
def ptB (v:V3):Bool:=inB v.x&&(inB v.y&&inB v.z)
theorem Qtn {n:Int}:inB n=true↔ -1048576≤n∧n≤1048576:=by
 unfold inB;simp only [Bool.not_eq_true',Bool.or_eq_false_iff,decide_eq_false_iff_not];omega
theorem Qlp {v:V3}:ptB v=true↔(-1048576≤v.x∧v.x≤1048576)∧(-1048576≤v.y∧v.y≤1048576)∧(-1048576≤v.z∧v.z≤1048576):=by
 unfold ptB;simp only [Bool.and_eq_true,Qtn]
def rowK (k:Int):List Int:=if k=1 then [1]else if k=2 then [0,0,10, -15,6]else []
def Qbl (a b:Int) (row:List Int):List Int:=if a=b then [a]else a::row.map fun f=>f*(b-a)
def legS (a b:V3) (f t k:Int):Sg:=⟨f,t,1,Qbl a.x b.x (rowK k),Qbl a.y b.y (rowK k),Qbl a.z b.z (rowK k)⟩
def tmB (f t:Int):Bool:=decide (0≤f)&&(decide (f<t)&&decide (t≤3600000))
def Qja (a b:V3) (f t:Int):Bool:=ptB a&&(ptB b&&tmB f t)
def flyL (a b:V3) (f t k:Int):List Sg:=if Qja a b f t=true then [legS a b f t k]else []
def flyE (a b:V3) (f t:Int):Int:=if Qja a b f t=true then 0 else 2
def up (v:V3) (r:Int):V3:=⟨v.x,v.y,v.z+r⟩
def arc3 (a b:V3) (r f t:Int):List Sg:=[legS a (up a r) f (f+(t-f)/4) 2,legS (up a r) (up b r) (f+(t-f)/4) (t-(t-f)/4) 2,legS (up b r) b (t-(t-f)/4) t 2]
structure Mv where
 to:V3
 w:Int
 f:Int
 r:Int
def tB (n:Int):Bool:=decide (0≤n)&&decide (n≤3600000)
def hiB (v:V3) (r:Int):Bool:=ptB (up v r)
def mvB (v:V3) (m:Mv) (len:Int):Bool:=
 ptB m.to&&(tB m.w&&(tB m.f&&(tB m.r&&(decide (m.w+m.f≤len)&&(if m.f=0 then decide (m.to=v)&&decide (m.r=0)else if 0<m.r then decide (m.f%4=0)&&(hiB v m.r&&hiB m.to m.r)else true)))))
def Zfr (v:V3) (f t:Int):List Sg:=flyL v v f t 0
def midL (v:V3) (m:Mv) (b e:Int):List Sg:=if 0<m.r then arc3 v m.to m.r b e else flyL v m.to b e 2
def mvL (v:V3) (m:Mv) (at_ len:Int):List Sg:=
 if m.f=0 then Zfr v at_ (at_+len)else Zfr v at_ (at_+m.w)++midL v m (at_+m.w) (at_+m.w+m.f)++Zfr m.to (at_+m.w+m.f) (at_+len)
def mvE (v:V3) (m:Mv) (at_ len:Int):Int:=
 if ptB v=true∧1≤len∧len≤3600000∧tB at_=true∧mvB v m len=true then(if at_+len≤3600000 then 0 else 3)else 2
def mvP (v:V3) (m:Mv) (at_ len:Int):List Sg:=if mvE v m at_ len=0 then mvL v m at_ len else []
structure Ac where
 nm:ByteArray
 ln:Int
 mv:List Mv
structure Pg where
 ns:List ByteArray
 hs:List V3
 as_:List Ac
def mv0:Mv:=⟨v0,0,0,0⟩
def chB (i c:Nat):Bool:=(decide (97≤c)&&decide (c≤122))||((decide (65≤c)&&decide (c≤90))||(decide (0<i)&&((decide (48≤c)&&decide (c≤57))||(decide (c=45)||decide (c=95)))))
def bAt (s:ByteArray) (i:Nat):Nat:=(s.data.toList.getD i 0).toNat
def Zmg (s:ByteArray) (k:Nat):Bool:=(List.range k).all fun i=>chB i (bAt s i)
def Zmh (s:ByteArray):Bool:=Zmg s s.size&&(decide (1≤s.size)&&decide (s.size≤32))
def nmAt (p:Pg) (i:Nat):ByteArray:=p.ns.getD i ⟨#[]⟩
def hmAt (p:Pg) (i:Nat):V3:=p.hs.getD i v0
def memN (s:ByteArray) (l:List ByteArray):Bool:=l.any fun x=>s==x
def memP (v:V3) (l:List V3):Bool:=l.any fun x=>decide (v=x)
def Zmi (p:Pg) (i:Nat):Bool:=Zmh (nmAt p i)&&(!memN (nmAt p i) (p.ns.take i)&&(ptB (hmAt p i)&& !memP (hmAt p i) (p.hs.take i)))
def Zmj (p:Pg) (k:Nat):Bool:=(List.range k).all (Zmi p)
def Zp3 (p:Pg):Bool:=decide (1≤p.ns.length)&&(decide (p.ns.length≤64)&&(decide (p.hs.length=p.ns.length)&&Zmj p p.ns.length))
def Zmk (from_:List V3) (ms:List Mv) (at_ ln:Int) (many:List Int) (i:Nat):Int:=many.getD i 0+((mvP (from_.getD i v0) (ms.getD i mv0) at_ ln).length:Int)
def okAt (from_:List V3) (ms:List Mv) (at_ ln:Int) (many:List Int) (i:Nat):Bool:=decide (mvE (from_.getD i v0) (ms.getD i mv0) at_ ln=0)&&decide (Zmk from_ ms at_ ln many i≤256)
def okTo (from_:List V3) (ms:List Mv) (at_ ln:Int) (many:List Int) (k:Nat):Bool:=(List.range k).all (okAt from_ ms at_ ln many)
def Zml (from_:List V3) (ms:List Mv) (at_ ln:Int) (many:List Int) (k:Nat):List Int:=(List.range many.length).map fun i=>if i<k then Zmk from_ ms at_ ln many i else many.getD i 0
def actB (n:Nat) (at_:Int) (a:Ac):Bool:=Zmh a.nm&&(decide (1≤a.ln)&&(decide (a.ln≤3600000-at_)&&decide (a.mv.length=n)))
def goB (n:Nat) (from_:List V3) (at_:Int) (many:List Int):List Ac→Bool
 | []=>true
 |a::l=>actB n at_ a&&(okTo from_ a.mv at_ a.ln many from_.length&&goB n (a.mv.map Mv.to) (at_+a.ln) (Zml from_ a.mv at_ a.ln many from_.length) l)
def Zfs (p:Pg):Bool:=Zp3 p&&(decide (p.as_.length≤60)&&goB p.ns.length p.hs 0 (List.replicate p.ns.length 0) p.as_)
end Go.Dg

namespace Go.Vl
open Go.Dg
def v3PV (v:V3):PV:= .agg [.int .i64 v.x,.int .i64 v.y,.int .i64 v.z]
theorem Qo9 (a:Int):Qc1 [1] (.int .i64 a) []=some none:=rfl
theorem Qk2 (a b:Int) (v:PV) (es:List (PV×PV)):Qc1 [1] (.int .i64 a) ((.int .i64 b,v)::es)=if a=b then some (some v)else Qc1 [1] (.int .i64 a) es:=by
 have e:Qay [1] [.int .i64 a] [.int .i64 b]=some (decide (a=b)):=by simp [Qay];rfl
 show(if(PV.int .i64 a).isAgg=(PV.int .i64 b).isAgg then match Qay [1] [.int .i64 a] [.int .i64 b]with
  |some true=>some (some v)
  |some false=>Qc1 [1] (.int .i64 a) es
  |none=>none else none)=_
 rw [if_pos (show(PV.int .i64 a).isAgg=(PV.int .i64 b).isAgg from rfl),e];by_cases h:a=b
 ·simp [h]
 ·simp [h]
end Go.Vl

namespace Go.Vl
open Go.RowKit
section
variable {P:Program} {b:Frame} {a:Act} {k:List Item} {cs:List Frame} {w:World}
end
def Qoz (P:Program) (tb:Tab) (nt:Nat) (ks:List Nat) (k:List It) (Q:Exit→St→Prop) (e:Exit) (s:St):Prop:=(∀l,e≠ .goto l)∧gleave P tb nt ks k Q e s
section
variable (P:Program) (tb:Tab) (nt:Nat) (ks:List Nat) (k:List It) (Q:Exit→St→Prop) (s:St)
theorem Qq1:Qoz P tb nt ks k Q .normal s=go P tb nt ks k Q s:=by
 unfold Qoz;rw [Qcs];exact propext ⟨fun h=>h.2,fun h=>⟨fun l=>by simp,h⟩⟩
theorem Qvx (i:Nat):Qoz P tb nt ks k Q (.exit i) s=gleave P tb nt ks k Q (.exit i) s:=by
 unfold Qoz;exact propext ⟨fun h=>h.2,fun h=>⟨fun l=>by simp,h⟩⟩
theorem Q0u:Qoz P tb nt ks k Q .ret s=gleave P tb nt ks k Q .ret s:=by
 unfold Qoz;exact propext ⟨fun h=>h.2,fun h=>⟨fun l=>by simp,h⟩⟩
end
attribute [go_sem] Qq1 Qvx Q0u List.append_eq
end Go.Vl

namespace Go.Vl
open Go.RowKit
def Zl2 (P:Program) (tb:Tab) (nt:Nat) (ks:List Nat) (c:Code) (k:List It) (Q:Exit→St→Prop):List Nat→St→Prop
 | [],_=>False
 |_::l,st=>go P tb nt ks (.code c:: .again (fun s=> ∃s',Le s s'∧Zl2 P tb nt ks c k Q l s')::k) Q st
theorem Q0t (P:Program) (tb:Tab) (nt:Nat) (ks:List Nat) (c:Code) (k:List It) (Q:Exit→St→Prop) (i:Nat) (l:List Nat) (st:St):Zl2 P tb nt ks c k Q (i::l) st=go P tb nt ks (.code c:: .again (fun s=> ∃s',Le s s'∧Zl2 P tb nt ks c k Q l s')::k) Q st:=rfl
attribute [go_sem] Q0t
end Go.Vl

namespace Go.Vl
open Go.RowKit
end Go.Vl

namespace Go.Proofs.YtobaaecbdlhpdaaGreat
open Go.Vl Go.RowKit Go.Dg
def sgV (s:Sg):PV:= .agg [.int .i64 s.f,.int .i64 s.t,.int .i64 s.o,.slc (s.x.map (PV.int .i64)),.slc (s.y.map (PV.int .i64)),.slc (s.z.map (PV.int .i64))]
def pV (p:List Sg):PV:= .slc (p.map sgV)
theorem lt_T {i n:Nat} (h:i<n):((i:Int)<(n:Int))=True:=by simp only [eq_iff_iff,iff_true];omega
theorem lt_F {i n:Nat} (h: ¬i<n):((i:Int)<(n:Int))=False:=by simp only [eq_iff_iff,iff_false];omega
theorem nn_T (i:Nat):((0:Int)≤(i:Int))=True:=by simp
theorem wr_1 {n:Nat} (h:n<9223372036854775807):IntKind.i64.wrap ((n:Int)+1)=((n+1:Nat):Int):=by rw [Qah (by omega) (by omega)];omega
theorem Q2b {α:Type} (l:List α) (i:Nat) (hi:i<l.length):l.take (i+1)=l.take i++[l[i]]:=by rw [List.take_add_one];simp [hi]
theorem Zmx {α:Type} {p:α→Bool} {l:List α} {i:Nat} (hi:i<l.length) (h:(l.take i).all p=true) (hp:p l[i]=true):(l.take (i+1)).all p=true:=by
 rw [List.take_add_one,List.all_append,h];simp [hi,hp]
theorem Zmy {α:Type} {p:α→Bool} {l:List α} {i:Nat} (hi:i<l.length) (hp:p l[i]=false):l.all p=false:=by
 rw [List.all_eq_false];exact⟨l[i],List.getElem_mem hi,by simp [hp]⟩
theorem T_m1:Qux Tryz.prog 123=some (53,44):=by kernel_rfl
theorem T_m2:Zdg Tryz.prog 53=some [1]:=by kernel_rfl
theorem T_m3:Qbm Tryz.prog 53=false:=by kernel_rfl
theorem Q8c (xs:List Int) (hx:xs.length≤1000):Qaf Tryz.prog 61 [.int .i64 1048576,.slc (xs.map (PV.int .i64))] (.bool (xs.all inB)):=by
 have hwm:IntKind.i64.wrap (0-1048576)= -1048576:=by rw [Qah (by decide) (by decide)];rfl
 have hwn:IntKind.i64.wrap (-1048576)= -1048576:=Qah (by decide) (by decide);refine Qac (tb:=[]) 23 [.tmp 4] [0,1,4,6,7,8,9,10,21] mixed Tryz.func61 rfl (by kernel_rfl) (by kernel_rfl) (by kernel_rfl) (by kernel_rfl) ?_;repeat (first|(simp -implicitDefEqProofs only [go_sem,Nat.reduceAdd,Nat.reduceMul,Nat.reduceEqDiff,Nat.reduceLT,Nat.reduceLeDiff,Nat.reduceSub,Nat.reduceBEq,reduceIte,reduceCtorEq,Int.reduceEq,Int.reduceNe,Nat.reduceBneDiff,Int.reduceLE,Int.reduceLT,Int.reduceToNat,Int.reduceAdd,Int.reduceSub,Int.reduceMul,Int.reduceNeg,T_m1,T_m2,T_m3,List.length_map]))
 refine Qa4 mixed (fun k:{k:Nat // k≤xs.length∧(xs.take k).all inB=true}=>St.of [(0,.int .i64 1048576),(1,.slc (xs.map (PV.int .i64))),(4,.bool false),(7,.slc (xs.map (PV.int .i64))),(8,.int .i64 (xs.length:Int)),(9,.int .i64 k.1)] []) (fun k=>xs.length-k.1) ⟨0,Nat.zero_le _,rfl⟩ ?_ ?_
 ·exact Qa3 (by simp [Qae,lkp,ren1,ren0,Qax])
 ·rintro⟨k,hk,hall⟩;by_cases hlt:k<xs.length
  ·have h1:=lt_T hlt;have h0:=nn_T k;have ea:(xs.map (PV.int .i64))[k]? =some (.int .i64 xs[k]):=by simp [hlt]
   have hwk:=wr_1 (n:=k) (by omega);have hn:=fun h=>Zmy (p:=inB) hlt h;have hs:=fun h=>Zmx (p:=inB) hlt hall h;generalize xs[k]=x at*;by_cases ha:x< -1048576
   ·have ha':(x< -1048576)=True:=eq_true ha;rw [hn (by simp [inB,ha])];repeat (first|(simp -implicitDefEqProofs only [go_sem,Nat.reduceAdd,Nat.reduceMul,Nat.reduceEqDiff,Nat.reduceLT,Nat.reduceLeDiff,Nat.reduceSub,Nat.reduceBEq,reduceIte,reduceCtorEq,Int.reduceEq,Int.reduceNe,Nat.reduceBneDiff,Int.reduceLE,Int.reduceLT,Int.reduceToNat,Int.reduceAdd,Int.reduceSub,Int.reduceMul,Int.reduceNeg,T_m1,T_m2,T_m3,h1,h0,List.length_map,Int.toNat_natCast,ea,hwm,hwn,ha',decide_true]))
   ·have ha':(x< -1048576)=False:=eq_false ha;by_cases hb:1048576<x
    ·have hb':(1048576<x)=True:=eq_true hb;rw [hn (by simp [inB,hb])];repeat (first|(simp -implicitDefEqProofs only [go_sem,Nat.reduceAdd,Nat.reduceMul,Nat.reduceEqDiff,Nat.reduceLT,Nat.reduceLeDiff,Nat.reduceSub,Nat.reduceBEq,reduceIte,reduceCtorEq,Int.reduceEq,Int.reduceNe,Nat.reduceBneDiff,Int.reduceLE,Int.reduceLT,Int.reduceToNat,Int.reduceAdd,Int.reduceSub,Int.reduceMul,Int.reduceNeg,T_m1,T_m2,T_m3,h1,h0,List.length_map,Int.toNat_natCast,ea,hwm,hwn,ha',hb',decide_true,decide_false]))
    ·have hb':(1048576<x)=False:=eq_false hb;repeat (first|(simp -implicitDefEqProofs only [go_sem,Nat.reduceAdd,Nat.reduceMul,Nat.reduceEqDiff,Nat.reduceLT,Nat.reduceLeDiff,Nat.reduceSub,Nat.reduceBEq,reduceIte,reduceCtorEq,Int.reduceEq,Int.reduceNe,Nat.reduceBneDiff,Int.reduceLE,Int.reduceLT,Int.reduceToNat,Int.reduceAdd,Int.reduceSub,Int.reduceMul,Int.reduceNeg,T_m1,T_m2,T_m3,h1,h0,List.length_map,Int.toNat_natCast,ea,hwm,hwn,ha',hb',hwk,decide_false]))
     refine⟨⟨k+1,hlt,hs (by simp [inB,ha,hb])⟩,by simp only;omega,?_⟩;exact Qa3 (by simp [Qae,lkp,ren1,ren0,Qax])
  ·have h1:=lt_F hlt;rw [List.take_of_length_le (by omega)]at hall;rw [hall];repeat (first|(simp -implicitDefEqProofs only [go_sem,Nat.reduceAdd,Nat.reduceMul,Nat.reduceEqDiff,Nat.reduceLT,Nat.reduceLeDiff,Nat.reduceSub,Nat.reduceBEq,reduceIte,reduceCtorEq,Int.reduceEq,Int.reduceNe,Nat.reduceBneDiff,Int.reduceLE,Int.reduceLT,Int.reduceToNat,Int.reduceAdd,Int.reduceSub,Int.reduceMul,Int.reduceNeg,T_m1,T_m2,T_m3,h1,List.length_map]))
theorem Ql3 (v:V3):Qaf Tryz.prog 34 [v3PV v] (.bool (ptB v)):=by
 have h:=Q8c [v.x,v.y,v.z] (by simp);have e:([v.x,v.y,v.z].all inB)=ptB v:=by simp [ptB]
 rw [e]at h;simp only [List.map_cons,List.map_nil]at h;unfold v3PV;refine Qac (tb:=[]) 11 [.tmp 2] [0,1,2] mixed Tryz.func34 rfl (by kernel_rfl) (by kernel_rfl) (by kernel_rfl) (by kernel_rfl) ?_;repeat (first|(simp -implicitDefEqProofs only [go_sem,Nat.reduceAdd,Nat.reduceMul,Nat.reduceEqDiff,Nat.reduceLT,Nat.reduceLeDiff,Nat.reduceSub,Nat.reduceBEq,reduceIte,reduceCtorEq,Int.reduceEq,Int.reduceNe,Nat.reduceBneDiff,Int.reduceLE,Int.reduceLT,Int.reduceToNat,Int.reduceAdd,Int.reduceSub,Int.reduceMul,Int.reduceNeg,T_m1,T_m2,T_m3])|((with_reducible refine Qab h ?_ ?_ ?_);rfl;rfl))
def Zmz:List (PV×PV):=[(.int .i64 0,.slc []),(.int .i64 1,.slc [.int .i64 1]),(.int .i64 2,.slc [.int .i64 0,.int .i64 0,.int .i64 10,.int .i64 (-15),.int .i64 6])]
theorem Zm0:Qdt Tryz.prog 68 [] [] (.mp 100) [(100,{els:=[],esz:=1,ety:=123,fro:=0,live:=true,arr:=true,mp:=some Zmz})]:=by
 refine Qdv (tb:=[]) 5 [.tmp 0] [0] mixed Tryz.func68 rfl (by kernel_rfl) (by kernel_rfl) (by kernel_rfl) (by kernel_rfl) (by rfl) ?_;repeat (first|(simp -implicitDefEqProofs only [go_sem,Nat.reduceAdd,Nat.reduceMul,Nat.reduceEqDiff,Nat.reduceLT,Nat.reduceLeDiff,Nat.reduceSub,Nat.reduceBEq,reduceIte,reduceCtorEq,Int.reduceEq,Int.reduceNe,Nat.reduceBneDiff,Int.reduceLE,Int.reduceLT,Int.reduceToNat,Int.reduceAdd,Int.reduceSub,Int.reduceMul,Int.reduceNeg,T_m1,T_m2,T_m3,Qo9,Qk2]))
 refine Qct (.inl rfl) ?_;simp -implicitDefEqProofs only [go_sem,Nat.reduceAdd,Nat.reduceMul,Nat.reduceEqDiff,Nat.reduceLT,Nat.reduceLeDiff,Nat.reduceSub,Nat.reduceBEq,reduceIte,reduceCtorEq,Int.reduceEq,Int.reduceNe,Nat.reduceBneDiff,Int.reduceLE,Int.reduceLT,Int.reduceToNat,Int.reduceAdd,Int.reduceSub,Int.reduceMul,Int.reduceNeg,T_m1,T_m2,T_m3];refine Qas (θ:=[(100,100)]) rfl ?_ ?_
 ·simp [Qae,lkp,ren1,ren0,Qax]
 ·exact⟨⟨rfl,rfl,rfl,rfl,rfl,.inl ⟨rfl,rfl⟩⟩,trivial⟩
def okC (n:Int):Prop:= -4194304≤n∧n≤4194304
def tmL (a b:Int) (row:List Int) (k:Nat):List PV:= .int .i64 a::(row.take k).map fun f=> .int .i64 (f*(b-a))
theorem Zeu {a b:Int} {row:List Int} {k:Nat} (h:k≤row.length):(tmL a b row k).length=k+1:=by simp [tmL];omega
theorem Zp5 (a b:Int) (row:List Int) (k:Nat):((tmL a b row k).flatMap PV.cells).all PV.okCell=true:=by
 rw [List.all_flatMap,List.all_eq_true];intro e he;unfold tmL at he;rcases List.mem_cons.1 he with rfl|he
 ·rfl
 ·obtain⟨f,_,rfl⟩:=List.mem_map.1 he;rfl
theorem Zgl {a b:Int} {row:List Int} {k:Nat} (h:k<row.length):tmL a b row (k+1)=tmL a b row k++[.int .i64 (row[k]*(b-a))]:=by
 unfold tmL;rw [Q2b _ _ h];simp only [List.map_append,List.map_cons,List.map_nil,List.cons_append]
theorem Zm1 {a b:Int} {row:List Int}:tmL a b row row.length=(a::row.map fun f=>f*(b-a)).map (PV.int .i64):=by
 unfold tmL;rw [List.take_length];simp
theorem Qt7 (a b:Int) (row:List Int) (hr:row.length≤16) (hrow: ∀f∈row, -100≤f∧f≤100) (ha:okC a) (hb:okC b):Qaf Tryz.prog 69 [.int .i64 a,.int .i64 b,.slc (row.map (PV.int .i64))] (.slc ((Qbl a b row).map (PV.int .i64))):=by
 unfold okC at ha hb;have wd:IntKind.i64.wrap (b-a)=b-a:=Qah (by omega) (by omega);by_cases hab:a=b
 ·have h1:(a != b)=false:=by simp [hab]
  have e:Qbl a b row=[a]:=if_pos hab;rw [e];refine Qac (tb:=[]) 31 [.tmp 6] [0,1,2,6,7,9,14,15,16,17,18] mixed Tryz.func69 rfl (by kernel_rfl) (by kernel_rfl) (by kernel_rfl) (by kernel_rfl) ?_;repeat (first|(simp -implicitDefEqProofs only [go_sem,Nat.reduceAdd,Nat.reduceMul,Nat.reduceEqDiff,Nat.reduceLT,Nat.reduceLeDiff,Nat.reduceSub,Nat.reduceBEq,reduceIte,reduceCtorEq,Int.reduceEq,Int.reduceNe,Nat.reduceBneDiff,Int.reduceLE,Int.reduceLT,Int.reduceToNat,Int.reduceAdd,Int.reduceSub,Int.reduceMul,Int.reduceNeg,T_m1,T_m2,T_m3,h1,List.map_cons,List.map_nil]))
 ·have h1:(a != b)=true:=by simp [hab]
  have e:Qbl a b row=a::row.map fun f=>f*(b-a):=if_neg hab;rw [e,←Zm1];refine Qac (tb:=[]) 31 [.tmp 6] [0,1,2,6,7,9,14,15,16,17,18] mixed Tryz.func69 rfl (by kernel_rfl) (by kernel_rfl) (by kernel_rfl) (by kernel_rfl) ?_;repeat (first|(simp -implicitDefEqProofs only [go_sem,Nat.reduceAdd,Nat.reduceMul,Nat.reduceEqDiff,Nat.reduceLT,Nat.reduceLeDiff,Nat.reduceSub,Nat.reduceBEq,reduceIte,reduceCtorEq,Int.reduceEq,Int.reduceNe,Nat.reduceBneDiff,Int.reduceLE,Int.reduceLT,Int.reduceToNat,Int.reduceAdd,Int.reduceSub,Int.reduceMul,Int.reduceNeg,T_m1,T_m2,T_m3,h1,List.length_map]))
  refine Qa4 mixed (fun k:{k:Nat // k≤row.length}=>St.of [(0,.int .i64 a),(1,.int .i64 b),(7,.bs 7 1 0 (k.1+1)),(15,.slc (row.map (PV.int .i64))),(16,.int .i64 (row.length:Int)),(17,.int .i64 (k.1:Int))]
   [(7,{els:=tmL a b row k.1,esz:=1,ety:=3,fro:=0,live:=true,arr:=true})]) (fun k=>row.length-k.1) ⟨0,Nat.zero_le _⟩ ?_ ?_
  ·refine Qas (θ:=[(7,101)]) rfl ?_ ?_
   ·simp [Qae,lkp,ren1,ren0,Qax]
   ·exact⟨⟨rfl,rfl,rfl,rfl,rfl,.inl ⟨rfl,rfl⟩⟩,trivial⟩
  ·rintro⟨k,hk⟩;simp only;by_cases hA:k<row.length
   ·have hA':=lt_T hA;have n0:=nn_T k;have hg:(row.map (PV.int .i64))[k]? =some (.int .i64 row[k]):=by simp [hA]
    have hwk:=wr_1 (n:=k) (by omega);obtain⟨f1,f2⟩:=hrow _ (List.getElem_mem hA);have hm:IntKind.i64.wrap (row[k]*(b-a))=row[k]*(b-a):=by
     have b1: -8388608≤b-a∧b-a≤8388608:=by omega
     have l1:row[k].natAbs*(b-a).natAbs≤100*8388608:=Nat.mul_le_mul (by omega) (by omega);have l2:(row[k]*(b-a)).natAbs=row[k].natAbs*(b-a).natAbs:=Int.natAbs_mul _ _;exact Qah (by omega) (by omega)
    have hlen:=Zeu (a:=a) (b:=b) hk;have hok:=Zp5 a b row k;have hsn:=Zgl (a:=a) (b:=b) hA;have k1:((k+1+1)*8≤140737488355328)=True:=eq_true (by omega);have k2:(k+1+1≤maxLen)=True:=eq_true (by unfold maxLen;omega);generalize tmL a b row k=T at*;generalize row[k]=f at*;repeat (first|(simp -implicitDefEqProofs only [go_sem,Nat.reduceAdd,Nat.reduceMul,Nat.reduceEqDiff,Nat.reduceLT,Nat.reduceLeDiff,Nat.reduceSub,Nat.reduceBEq,reduceIte,reduceCtorEq,Int.reduceEq,Int.reduceNe,Nat.reduceBneDiff,Int.reduceLE,Int.reduceLT,Int.reduceToNat,Int.reduceAdd,Int.reduceSub,Int.reduceMul,Int.reduceNeg,T_m1,T_m2,T_m3,hA',n0,hg,hwk,wd,hm,hlen,hok,k1,k2,Int.toNat_natCast,List.length_map]))
    refine⟨⟨k+1,hA⟩,by simp only;omega,?_⟩;refine Qas (θ:=[(7,607)]) rfl ?_ ?_
    ·simp [Qae,lkp,ren1,ren0,Qax]
    ·exact⟨⟨rfl,rfl,rfl,rfl,rfl,.inl ⟨rfl,hsn.symm⟩⟩,trivial⟩
   ·have hA':=lt_F hA;obtain rfl:k=row.length:=by omega
    have hlen:=Zeu (a:=a) (b:=b) hk;have htk:(tmL a b row row.length).take (row.length+1)=tmL a b row row.length:=List.take_of_length_le (by omega);generalize tmL a b row row.length=T at*;repeat (first|(simp -implicitDefEqProofs only [go_sem,Nat.reduceAdd,Nat.reduceMul,Nat.reduceEqDiff,Nat.reduceLT,Nat.reduceLeDiff,Nat.reduceSub,Nat.reduceBEq,reduceIte,reduceCtorEq,Int.reduceEq,Int.reduceNe,Nat.reduceBneDiff,Int.reduceLE,Int.reduceLT,Int.reduceToNat,Int.reduceAdd,Int.reduceSub,Int.reduceMul,Int.reduceNeg,T_m1,T_m2,T_m3,hA',hlen,htk]))
theorem Qpo (k:Int):(rowK k).length≤16:=by
 unfold rowK;split
 ·simp
 ·split<;>simp
theorem Qt8 (k:Int): ∀f∈rowK k, -100≤f∧f≤100:=by
 intro f hf;unfold rowK at hf;split at hf
 ·simp at hf;omega
 ·split at hf
  ·simp at hf;omega
  ·simp at hf
def okV (v:V3):Prop:=okC v.x∧okC v.y∧okC v.z
theorem Qwo {v:V3} (h:ptB v=true):okV v:=by
 have:=Qlp.1 h;unfold okV okC;omega
set_option maxRecDepth 100000 in
theorem Zm2 (a b:V3) (f t k:Int) (hk:k=0∨k=1∨k=2) (ha:okV a) (hb:okV b):Qaf Tryz.prog 42 [v3PV a,v3PV b,.int .i64 f,.int .i64 t,.int .i64 k] (sgV (legS a b f t k)):=by
 have bl:Nat.blt 100 1000000=true:=rfl;have h1:=Qt7 a.x b.x (rowK k) (Qpo k) (Qt8 k) ha.1 hb.1;have h2:=Qt7 a.y b.y (rowK k) (Qpo k) (Qt8 k) ha.2.1 hb.2.1;have h3:=Qt7 a.z b.z (rowK k) (Qpo k) (Qt8 k) ha.2.2 hb.2.2;have h0:=Zm0;unfold Zmz at h0;unfold sgV legS v3PV;simp only;generalize Qbl a.x b.x (rowK k)=L1 at*;generalize Qbl a.y b.y (rowK k)=L2 at*;generalize Qbl a.z b.z (rowK k)=L3 at*;rcases hk with rfl|rfl|rfl
 ·have e:(rowK 0).map (PV.int .i64)=[]:=rfl;rw [e]at h1 h2 h3

  refine Qac (tb:=[(100,[],[(100,100)])]) 36 [.cell 10 46] [0,1,2,3,4,5,6,10,11] mixed Tryz.func42 rfl (by kernel_rfl) (by kernel_rfl) (by kernel_rfl) (by kernel_rfl) ?_;repeat (first|(simp -implicitDefEqProofs only [go_sem,Nat.reduceAdd,Nat.reduceMul,Nat.reduceEqDiff,Nat.reduceLT,Nat.reduceLeDiff,Nat.reduceSub,Nat.reduceBEq,reduceIte,reduceCtorEq,Int.reduceEq,Int.reduceNe,Nat.reduceBneDiff,Int.reduceLE,Int.reduceLT,Int.reduceToNat,Int.reduceAdd,Int.reduceSub,Int.reduceMul,Int.reduceNeg,T_m1,T_m2,T_m3,bl,Qo9,Qk2])|((with_reducible refine Qb7 h0 ?_ ?_ ?_ ?_);rfl;rfl;rfl)|((with_reducible refine Qab h1 ?_ ?_ ?_);rfl;rfl)|((with_reducible refine Qab h2 ?_ ?_ ?_);rfl;rfl)|((with_reducible refine Qab h3 ?_ ?_ ?_);rfl;rfl)|(with_reducible exact Qaa _ _ (by kernel_rfl))|(with_reducible refine And.intro (Qaa _ _ (by kernel_rfl)) ?_))
 ·have e:(rowK 1).map (PV.int .i64)=[.int .i64 1]:=rfl;rw [e]at h1 h2 h3

  refine Qac (tb:=[(100,[],[(100,100)])]) 36 [.cell 10 46] [0,1,2,3,4,5,6,10,11] mixed Tryz.func42 rfl (by kernel_rfl) (by kernel_rfl) (by kernel_rfl) (by kernel_rfl) ?_;repeat (first|(simp -implicitDefEqProofs only [go_sem,Nat.reduceAdd,Nat.reduceMul,Nat.reduceEqDiff,Nat.reduceLT,Nat.reduceLeDiff,Nat.reduceSub,Nat.reduceBEq,reduceIte,reduceCtorEq,Int.reduceEq,Int.reduceNe,Nat.reduceBneDiff,Int.reduceLE,Int.reduceLT,Int.reduceToNat,Int.reduceAdd,Int.reduceSub,Int.reduceMul,Int.reduceNeg,T_m1,T_m2,T_m3,bl,Qo9,Qk2])|((with_reducible refine Qb7 h0 ?_ ?_ ?_ ?_);rfl;rfl;rfl)|((with_reducible refine Qab h1 ?_ ?_ ?_);rfl;rfl)|((with_reducible refine Qab h2 ?_ ?_ ?_);rfl;rfl)|((with_reducible refine Qab h3 ?_ ?_ ?_);rfl;rfl)|(with_reducible exact Qaa _ _ (by kernel_rfl))|(with_reducible refine And.intro (Qaa _ _ (by kernel_rfl)) ?_))
 ·have e:(rowK 2).map (PV.int .i64)=[.int .i64 0,.int .i64 0,.int .i64 10,.int .i64 (-15),.int .i64 6]:=rfl;rw [e]at h1 h2 h3

  refine Qac (tb:=[(100,[],[(100,100)])]) 36 [.cell 10 46] [0,1,2,3,4,5,6,10,11] mixed Tryz.func42 rfl (by kernel_rfl) (by kernel_rfl) (by kernel_rfl) (by kernel_rfl) ?_;repeat (first|(simp -implicitDefEqProofs only [go_sem,Nat.reduceAdd,Nat.reduceMul,Nat.reduceEqDiff,Nat.reduceLT,Nat.reduceLeDiff,Nat.reduceSub,Nat.reduceBEq,reduceIte,reduceCtorEq,Int.reduceEq,Int.reduceNe,Nat.reduceBneDiff,Int.reduceLE,Int.reduceLT,Int.reduceToNat,Int.reduceAdd,Int.reduceSub,Int.reduceMul,Int.reduceNeg,T_m1,T_m2,T_m3,bl,Qo9,Qk2])|((with_reducible refine Qb7 h0 ?_ ?_ ?_ ?_);rfl;rfl;rfl)|((with_reducible refine Qab h1 ?_ ?_ ?_);rfl;rfl)|((with_reducible refine Qab h2 ?_ ?_ ?_);rfl;rfl)|((with_reducible refine Qab h3 ?_ ?_ ?_);rfl;rfl)|(with_reducible exact Qaa _ _ (by kernel_rfl))|(with_reducible refine And.intro (Qaa _ _ (by kernel_rfl)) ?_))
end Go.Proofs.YtobaaecbdlhpdaaGreat

namespace Go.Proofs.YtobaaecbdlhpdaaGreat
open Go.Vl Go.RowKit Go.Dg
theorem Qpp (a b:V3) (f t:Int):Qaf Tryz.prog 33 [v3PV a,v3PV b,.int .i64 f,.int .i64 t] (.bool (Qja a b f t)):=by
 have h1:=Ql3 a;have h2:=Ql3 b;unfold v3PV at h1 h2 ⊢;unfold Qja tmB;cases e1:ptB a with
 |false=>
  rw [e1]at h1;refine Qac (tb:=[]) 28 [.tmp 8] [0,1,2,3,4,5,8] mixed Tryz.func33 rfl (by kernel_rfl) (by kernel_rfl) (by kernel_rfl) (by kernel_rfl) ?_;repeat (first|(simp -implicitDefEqProofs only [go_sem,Nat.reduceAdd,Nat.reduceMul,Nat.reduceEqDiff,Nat.reduceLT,Nat.reduceLeDiff,Nat.reduceSub,Nat.reduceBEq,reduceIte,reduceCtorEq,Int.reduceEq,Int.reduceNe,Nat.reduceBneDiff,Int.reduceLE,Int.reduceLT,Int.reduceToNat,Int.reduceAdd,Int.reduceSub,Int.reduceMul,Int.reduceNeg,Bool.false_and])|((with_reducible refine Qab h1 ?_ ?_ ?_);rfl;rfl))
 |true=>
  rw [e1]at h1;cases e2:ptB b with
  |false=>
   rw [e2]at h2;refine Qac (tb:=[]) 28 [.tmp 8] [0,1,2,3,4,5,8] mixed Tryz.func33 rfl (by kernel_rfl) (by kernel_rfl) (by kernel_rfl) (by kernel_rfl) ?_;repeat (first|(simp -implicitDefEqProofs only [go_sem,Nat.reduceAdd,Nat.reduceMul,Nat.reduceEqDiff,Nat.reduceLT,Nat.reduceLeDiff,Nat.reduceSub,Nat.reduceBEq,reduceIte,reduceCtorEq,Int.reduceEq,Int.reduceNe,Nat.reduceBneDiff,Int.reduceLE,Int.reduceLT,Int.reduceToNat,Int.reduceAdd,Int.reduceSub,Int.reduceMul,Int.reduceNeg,Bool.false_and,Bool.true_and])|((with_reducible refine Qab h1 ?_ ?_ ?_);rfl;rfl)|((with_reducible refine Qab h2 ?_ ?_ ?_);rfl;rfl))
  |true=>
   rw [e2]at h2;by_cases e3:0≤f
   ·have e3':(0≤f)=True:=eq_true e3;by_cases e4:f<t
    ·have e4':(f<t)=True:=eq_true e4;refine Qac (tb:=[]) 28 [.tmp 8] [0,1,2,3,4,5,8] mixed Tryz.func33 rfl (by kernel_rfl) (by kernel_rfl) (by kernel_rfl) (by kernel_rfl) ?_;repeat (first|(simp -implicitDefEqProofs only [go_sem,Nat.reduceAdd,Nat.reduceMul,Nat.reduceEqDiff,Nat.reduceLT,Nat.reduceLeDiff,Nat.reduceSub,Nat.reduceBEq,reduceIte,reduceCtorEq,Int.reduceEq,Int.reduceNe,Nat.reduceBneDiff,Int.reduceLE,Int.reduceLT,Int.reduceToNat,Int.reduceAdd,Int.reduceSub,Int.reduceMul,Int.reduceNeg,Bool.true_and,e3',e4',decide_true])|((with_reducible refine Qab h1 ?_ ?_ ?_);rfl;rfl)|((with_reducible refine Qab h2 ?_ ?_ ?_);rfl;rfl))
    ·have e4':(f<t)=False:=eq_false e4;refine Qac (tb:=[]) 28 [.tmp 8] [0,1,2,3,4,5,8] mixed Tryz.func33 rfl (by kernel_rfl) (by kernel_rfl) (by kernel_rfl) (by kernel_rfl) ?_;repeat (first|(simp -implicitDefEqProofs only [go_sem,Nat.reduceAdd,Nat.reduceMul,Nat.reduceEqDiff,Nat.reduceLT,Nat.reduceLeDiff,Nat.reduceSub,Nat.reduceBEq,reduceIte,reduceCtorEq,Int.reduceEq,Int.reduceNe,Nat.reduceBneDiff,Int.reduceLE,Int.reduceLT,Int.reduceToNat,Int.reduceAdd,Int.reduceSub,Int.reduceMul,Int.reduceNeg,Bool.false_and,Bool.true_and,e3',e4',decide_true,decide_false])|((with_reducible refine Qab h1 ?_ ?_ ?_);rfl;rfl)|((with_reducible refine Qab h2 ?_ ?_ ?_);rfl;rfl))
   ·have e3':(0≤f)=False:=eq_false e3;refine Qac (tb:=[]) 28 [.tmp 8] [0,1,2,3,4,5,8] mixed Tryz.func33 rfl (by kernel_rfl) (by kernel_rfl) (by kernel_rfl) (by kernel_rfl) ?_;repeat (first|(simp -implicitDefEqProofs only [go_sem,Nat.reduceAdd,Nat.reduceMul,Nat.reduceEqDiff,Nat.reduceLT,Nat.reduceLeDiff,Nat.reduceSub,Nat.reduceBEq,reduceIte,reduceCtorEq,Int.reduceEq,Int.reduceNe,Nat.reduceBneDiff,Int.reduceLE,Int.reduceLT,Int.reduceToNat,Int.reduceAdd,Int.reduceSub,Int.reduceMul,Int.reduceNeg,Bool.false_and,Bool.true_and,e3',decide_false])|((with_reducible refine Qab h1 ?_ ?_ ?_);rfl;rfl)|((with_reducible refine Qab h2 ?_ ?_ ?_);rfl;rfl))
theorem Ql4 {a b:V3} {f t:Int} (h:Qja a b f t=true):ptB a=true∧ptB b=true∧0≤f∧f<t∧t≤3600000:=by
 unfold Qja tmB at h;simp only [Bool.and_eq_true,decide_eq_true_eq]at h;exact h
theorem Zgm (a b:V3) (f t k:Int) (hk:k=0∨k=1∨k=2):Qaf Tryz.prog 21 [v3PV a,v3PV b,.int .i64 f,.int .i64 t,.int .i64 k] (.tup [pV (flyL a b f t k),.int .i64 (flyE a b f t)]):=by
 have h1:=Qpp a b f t;unfold flyL flyE;cases e1:Qja a b f t with
 |false=>
  rw [e1]at h1;simp only [Bool.false_eq_true,if_false,pV,List.map_nil];unfold v3PV at h1 ⊢;refine Qac (tb:=[]) 25 [.tmp 10,.tmp 11] [0,1,2,3,4,5,6,10,11,17] mixed Tryz.func21 rfl (by kernel_rfl) (by kernel_rfl) (by kernel_rfl) (by kernel_rfl) ?_;repeat (first|(simp -implicitDefEqProofs only [go_sem,Nat.reduceAdd,Nat.reduceMul,Nat.reduceEqDiff,Nat.reduceLT,Nat.reduceLeDiff,Nat.reduceSub,Nat.reduceBEq,reduceIte,reduceCtorEq,Int.reduceEq,Int.reduceNe,Nat.reduceBneDiff,Int.reduceLE,Int.reduceLT,Int.reduceToNat,Int.reduceAdd,Int.reduceSub,Int.reduceMul,Int.reduceNeg,Bool.not_false])|((with_reducible refine Qab h1 ?_ ?_ ?_);rfl;rfl))
 |true=>
  rw [e1]at h1;obtain⟨p1,p2, -⟩:=Ql4 e1;have h2:=Zm2 a b f t k hk (Qwo p1) (Qwo p2);simp only [if_true,pV,List.map_cons,List.map_nil];unfold v3PV at h1 h2 ⊢;unfold sgV at h2 ⊢;refine Qac (tb:=[]) 25 [.tmp 10,.tmp 11] [0,1,2,3,4,5,6,10,11,17] mixed Tryz.func21 rfl (by kernel_rfl) (by kernel_rfl) (by kernel_rfl) (by kernel_rfl) ?_;repeat (first|(simp -implicitDefEqProofs only [go_sem,Nat.reduceAdd,Nat.reduceMul,Nat.reduceEqDiff,Nat.reduceLT,Nat.reduceLeDiff,Nat.reduceSub,Nat.reduceBEq,reduceIte,reduceCtorEq,Int.reduceEq,Int.reduceNe,Nat.reduceBneDiff,Int.reduceLE,Int.reduceLT,Int.reduceToNat,Int.reduceAdd,Int.reduceSub,Int.reduceMul,Int.reduceNeg,Bool.not_true])|((with_reducible refine Qab h1 ?_ ?_ ?_);rfl;rfl)|((with_reducible refine Qab h2 ?_ ?_ ?_);rfl;rfl))
theorem Qt9 (a b:V3) (f t:Int):Qaf Tryz.prog 6 [v3PV a,v3PV b,.int .i64 f,.int .i64 t] (.tup [pV (flyL a b f t 2),.int .i64 (flyE a b f t)]):=by
 have h1:=Zgm a b f t 2 (by simp);unfold v3PV pV at h1 ⊢;refine Qac (tb:=[]) 17 [.tmp 8,.tmp 9] [0,1,2,3,4,5,8,9] mixed Tryz.func6 rfl (by kernel_rfl) (by kernel_rfl) (by kernel_rfl) (by kernel_rfl) ?_;repeat (first|(simp -implicitDefEqProofs only [go_sem,Nat.reduceAdd,Nat.reduceMul,Nat.reduceEqDiff,Nat.reduceLT,Nat.reduceLeDiff,Nat.reduceSub,Nat.reduceBEq,reduceIte,reduceCtorEq,Int.reduceEq,Int.reduceNe,Nat.reduceBneDiff,Int.reduceLE,Int.reduceLT,Int.reduceToNat,Int.reduceAdd,Int.reduceSub,Int.reduceMul,Int.reduceNeg])|((with_reducible refine Qab h1 ?_ ?_ ?_);rfl;rfl))
theorem Zgn (a:V3) (f t:Int):Qaf Tryz.prog 17 [v3PV a,.int .i64 f,.int .i64 t] (.tup [pV (flyL a a f t 0),.int .i64 (flyE a a f t)]):=by
 have h1:=Zgm a a f t 0 (by simp);unfold v3PV pV at h1 ⊢;refine Qac (tb:=[]) 15 [.tmp 6,.tmp 7] [0,1,2,3,6,7] mixed Tryz.func17 rfl (by kernel_rfl) (by kernel_rfl) (by kernel_rfl) (by kernel_rfl) ?_;repeat (first|(simp -implicitDefEqProofs only [go_sem,Nat.reduceAdd,Nat.reduceMul,Nat.reduceEqDiff,Nat.reduceLT,Nat.reduceLeDiff,Nat.reduceSub,Nat.reduceBEq,reduceIte,reduceCtorEq,Int.reduceEq,Int.reduceNe,Nat.reduceBneDiff,Int.reduceLE,Int.reduceLT,Int.reduceToNat,Int.reduceAdd,Int.reduceSub,Int.reduceMul,Int.reduceNeg])|((with_reducible refine Qab h1 ?_ ?_ ?_);rfl;rfl))
def psV (l:List V3):PV:= .slc (l.map v3PV)
def Q2c (P:List V3) (T:List Int) (i:Nat):Sg:=legS (P.getD i v0) (P.getD (i+1) v0) (T.getD i 0) (T.getD (i+1) 0) 2
def Qrp (P:List V3) (T:List Int):List Sg:=(List.range (P.length-1)).map (Q2c P T)
def legO (P:List V3) (T:List Int):List (List PV):=(Qrp P T).map fun s=>[sgV s]
theorem Zm3 (P:List V3) (T:List Int):Qaf Tryz.prog 62 [psV P,.slc (T.map (PV.int .i64))] (.fn 88 [] [.rp [psV P],.rp [.slc (T.map (PV.int .i64))]]):=by
 refine Qac (tb:=[]) 6 [.tmp 4] [0,1,2,3,4] mixed Tryz.func62 rfl (by kernel_rfl) (by kernel_rfl) (by kernel_rfl) (by kernel_rfl) ?_;repeat (first|(simp -implicitDefEqProofs only [go_sem,Nat.reduceAdd,Nat.reduceMul,Nat.reduceEqDiff,Nat.reduceLT,Nat.reduceLeDiff,Nat.reduceSub,Nat.reduceBEq,reduceIte,reduceCtorEq,Int.reduceEq,Int.reduceNe,Nat.reduceBneDiff,Int.reduceLE,Int.reduceLT,Int.reduceToNat,Int.reduceAdd,Int.reduceSub,Int.reduceMul,Int.reduceNeg,psV]))
theorem Q2d (l:List V3) (i:Nat) (h:i<l.length):(l.map v3PV)[i]? =some (.agg [.int .i64 (l.getD i v0).x,.int .i64 (l.getD i v0).y,.int .i64 (l.getD i v0).z]):=by
 rw [List.getElem?_map,List.getElem?_eq_getElem h,List.getD_eq_getElem?_getD,List.getElem?_eq_getElem h];rfl
theorem Q2e (l:List Int) (i:Nat) (h:i<l.length):(l.map (PV.int .i64))[i]? =some (.int .i64 (l.getD i 0)):=by
 rw [List.getElem?_map,List.getElem?_eq_getElem h,List.getD_eq_getElem?_getD,List.getElem?_eq_getElem h];rfl
theorem Q8d (P:List V3) (T:List Int):(legO P T).length=P.length-1:=by simp [legO,Qrp]
theorem Q8e (P:List V3) (T:List Int) {i:Nat} (h:i<P.length-1):(legO P T)[i]? =some [sgV (Q2c P T i)]:=by
 simp [legO,Qrp,h]
set_option maxRecDepth 100000 in
set_option maxHeartbeats 1000000 in
theorem Zgo (P:List V3) (T:List Int) (hl:P.length≤1000) (hT:T.length=P.length) (hp: ∀i,okV (P.getD i v0)):Qng Tryz.prog 88 [.rp [psV P],.rp [.slc (T.map (PV.int .i64))]] (legO P T):=by
 have hlO:=Q8d P T;have w0:IntKind.i64.wrap 1=1:=Qah (by decide) (by decide);refine Qtc (tb:=[]) 33 [0,1,2,4,8,32] mixed Tryz.func88 rfl (by kernel_rfl) (by kernel_rfl) (by kernel_rfl) (by kernel_rfl) fun l stop=> ?_;repeat (first|(simp -implicitDefEqProofs only [go_sem,Nat.reduceAdd,Nat.reduceMul,Nat.reduceEqDiff,Nat.reduceLT,Nat.reduceLeDiff,Nat.reduceSub,Nat.reduceBEq,reduceIte,reduceCtorEq,Int.reduceEq,Int.reduceNe,Nat.reduceBneDiff,Int.reduceLE,Int.reduceLT,Int.reduceToNat,Int.reduceAdd,Int.reduceSub,Int.reduceMul,Int.reduceNeg,psV,w0])|(with_reducible exact Qaa _ _ (by kernel_rfl))|(with_reducible refine And.intro (Qaa _ _ (by kernel_rfl)) ?_))
 refine Qa4 mixed (fun k:{k:Nat // k≤P.length-1∧k≤stop}=>St.ofG [(0,.yld l stop),(1,.rp [psV P]),(2,.rp [.slc (T.map (PV.int .i64))]),(4,.int .i64 ((k.1+1:Nat):Int))] [] ((legO P T).take k.1) (some (l,stop,legO P T))) (fun k=>P.length-k.1) ⟨0,Nat.zero_le _,Nat.zero_le _⟩ ?_ ?_
 ·refine Qa3 ?_;simp [Qae,lkp,ren1,ren0,Qax,psV]
 ·rintro⟨k,hk,hst⟩;simp only;have hlen:((legO P T).take k).length=k:=by rw [List.length_take];omega
  by_cases hA:k+1<P.length
  ·have hA':=lt_T hA;have n0:=nn_T k;have n1:=nn_T (k+1);have g1:=Q2d P k (by omega);have g2:=Q2d P (k+1) hA;have g3:=Q2e T k (by omega);have g4:=Q2e T (k+1) (by omega);have hwk:=wr_1 (n:=k+1) (by omega);have hwm:IntKind.i64.wrap (((k+1:Nat):Int)-1)=(k:Int):=by rw [Qah (by omega) (by omega)];omega
   have hleg:=Zm2 (P.getD k v0) (P.getD (k+1) v0) (T.getD k 0) (T.getD (k+1) 0) 2 (by simp) (hp k) (hp (k+1));have hgt:=Q8e P T (i:=k) (by omega);have htk:(legO P T).take (k+1)=(legO P T).take k++[[sgV (Q2c P T k)]]:=by
    rw [List.take_add_one,hgt];rfl
   have ee:sgV (legS (P.getD k v0) (P.getD (k+1) v0) (T.getD k 0) (T.getD (k+1) 0) 2)=sgV (Q2c P T k):=rfl;rw [ee]at hleg;generalize Q2c P T k=S at*;generalize legO P T=OO at*;generalize P.getD k v0=va at*;generalize P.getD (k+1) v0=vb at*;generalize T.getD k 0=ta at*;generalize T.getD (k+1) 0=tb at*;unfold v3PV at hleg;unfold sgV at hleg hgt htk;have hst':(k≤stop)=True:=eq_true hst;by_cases hlt:k<stop
   ·have hlt':(k<stop)=True:=eq_true hlt;repeat (first|(simp -implicitDefEqProofs only [go_sem,Nat.reduceAdd,Nat.reduceMul,Nat.reduceEqDiff,Nat.reduceLT,Nat.reduceLeDiff,Nat.reduceSub,Nat.reduceBEq,reduceIte,reduceCtorEq,Int.reduceEq,Int.reduceNe,Nat.reduceBneDiff,Int.reduceLE,Int.reduceLT,Int.reduceToNat,Int.reduceAdd,Int.reduceSub,Int.reduceMul,Int.reduceNeg,psV,hA',n0,n1,g1,g2,g3,g4,hwk,hwm,hlen,hgt,hst',hlt',Int.toNat_natCast,List.length_map])|((with_reducible refine Qab hleg ?_ ?_ ?_);rfl;rfl)|(with_reducible exact Qaa _ _ (by kernel_rfl))|(with_reducible refine And.intro (Qaa _ _ (by kernel_rfl)) ?_))
    refine⟨⟨k+1,by omega,hlt⟩,by simp only;omega,?_⟩;simp only [htk];refine Qa3 ?_;simp [Qae,lkp,ren1,ren0,Qax,psV]
   ·have hlt':(k<stop)=False:=eq_false hlt;obtain rfl:k=stop:=by omega
    repeat (first|(simp -implicitDefEqProofs only [go_sem,Nat.reduceAdd,Nat.reduceMul,Nat.reduceEqDiff,Nat.reduceLT,Nat.reduceLeDiff,Nat.reduceSub,Nat.reduceBEq,reduceIte,reduceCtorEq,Int.reduceEq,Int.reduceNe,Nat.reduceBneDiff,Int.reduceLE,Int.reduceLT,Int.reduceToNat,Int.reduceAdd,Int.reduceSub,Int.reduceMul,Int.reduceNeg,psV,hA',n0,n1,g1,g2,g3,g4,hwk,hwm,hlen,hgt,hst',hlt',Qnx,htk,Int.toNat_natCast,List.length_map])|((with_reducible refine Qab hleg ?_ ?_ ?_);rfl;rfl)|(with_reducible exact Qaa _ _ (by kernel_rfl))|(with_reducible refine And.intro (Qaa _ _ (by kernel_rfl)) ?_))
  ·have hA':=lt_F hA;have e1:((legO P T).take k)=legO P T:=List.take_of_length_le (by omega);have e2:((legO P T).take (stop+1))=legO P T:=List.take_of_length_le (by omega);rw [e1];generalize legO P T=OO at*;repeat (first|(simp -implicitDefEqProofs only [go_sem,Nat.reduceAdd,Nat.reduceMul,Nat.reduceEqDiff,Nat.reduceLT,Nat.reduceLeDiff,Nat.reduceSub,Nat.reduceBEq,reduceIte,reduceCtorEq,Int.reduceEq,Int.reduceNe,Nat.reduceBneDiff,Int.reduceLE,Int.reduceLT,Int.reduceToNat,Int.reduceAdd,Int.reduceSub,Int.reduceMul,Int.reduceNeg,psV,hA',Qnx,e2,List.length_map])|(with_reducible exact Qaa _ _ (by kernel_rfl))|(with_reducible refine And.intro (Qaa _ _ (by kernel_rfl)) ?_))
end Go.Proofs.YtobaaecbdlhpdaaGreat

namespace Go.Proofs.YtobaaecbdlhpdaaGreat
open Go.Vl Go.RowKit Go.Dg
theorem Zev (l:List Sg):(((l.map sgV).flatMap PV.cells).all PV.okCell)=true:=by
 rw [List.all_flatMap,List.all_map,List.all_eq_true];intro _ _;rfl
def tuB (S:List Sg):Nat→List (Nat×Box)
 |0=>[(1000000,{els:=[.nilS],esz:=1,ety:=27,fro:=0,live:=true,arr:=false})]
 |k+1=>[(1000000,{els:=[.bs 7 6 0 (k+1)],esz:=1,ety:=27,fro:=0,live:=true,arr:=false}),(7,{els:=(S.take (k+1)).map sgV,esz:=6,ety:=46,fro:=0,live:=true,arr:=true})]
theorem Zp6 (S:List Sg) (k:Nat): ∀b∈ [1000000],(lkp (tuB S k) b).isSome=true:=by
 cases k<;>simp [tuB,lkp]
theorem Zgp {S:List Sg} {k:Nat} {x:Sg} (hx:S[k]? =some x):(S.take (k+1)).map sgV=(S.take k).map sgV++[.agg [.int .i64 x.f,.int .i64 x.t,.int .i64 x.o,.slc (x.x.map (PV.int .i64)),.slc (x.y.map (PV.int .i64)),.slc (x.z.map (PV.int .i64))]]:=by
 obtain⟨hk,rfl⟩:=List.getElem?_eq_some_iff.1 hx;rw [Q2b S k hk,List.map_append];rfl
theorem Zgq {S:List Sg} {k:Nat} (h:k≤S.length):((S.take k).map sgV).length=k:=by simp;omega
theorem Zgr:(1≤maxLen)=True:=eq_true (by decide)
def Qrq (T:List Int) (k:Nat):Int:=if k=0 then -1 else T.getD (k-1) 0
theorem T_zs:Qa7 Tryz.prog 46=some (.agg [.int .i64 0,.int .i64 0,.int .i64 0,.nilS,.nilS,.nilS]):=by kernel_rfl
set_option maxRecDepth 100000 in
set_option maxHeartbeats 2000000 in
theorem Zm4 (P:List V3) (T:List Int) (hl2:2≤P.length) (hl:P.length≤257) (hT:T.length=P.length) (hp: ∀i,i<P.length→ptB (P.getD i v0)=true) (ht: ∀i,i<P.length→Qrq T i<T.getD i 0∧T.getD i 0≤3600000):
  Qaf Tryz.prog 35 [psV P,.slc (T.map (PV.int .i64))] (.tup [pV (Qrp P T),.int .i64 0]):=by
 have l1:((P.length:Int)<2)=False:=eq_false (by omega);have l2:((P.length:Int) != (P.length:Int))=false:=by simp
 have l3:((257:Int)<(P.length:Int))=False:=eq_false (by omega);have wm:IntKind.i64.wrap (-1)= -1:=Qah (by decide) (by decide);have hY:=Zgo P T (by omega) hT (fun i=>by
  by_cases h:i<P.length
  ·exact Qwo (hp i h)
  ·rw [List.getD_eq_getElem?_getD,List.getElem?_eq_none (by omega)];exact Qwo rfl)
 have hL:=Zm3 P T;unfold psV at hL hY;unfold legO at hY;have hSl:(Qrp P T).length=P.length-1:=by simp [Qrp]
 unfold pV;refine Qac (tb:=[]) 57 [.tmp 4,.tmp 5] [0,1,4,5,6,7,8,9,10,20,21,22,23,24,42,47,50,51] mixed Tryz.func35 rfl (by kernel_rfl) (by kernel_rfl) (by kernel_rfl) (by kernel_rfl) ?_;repeat (first|(simp -implicitDefEqProofs only [go_sem,Nat.reduceAdd,Nat.reduceMul,Nat.reduceEqDiff,Nat.reduceLT,Nat.reduceLeDiff,Nat.reduceSub,Nat.reduceBEq,reduceIte,reduceCtorEq,Int.reduceEq,Int.reduceNe,Nat.reduceBneDiff,Int.reduceLE,Int.reduceLT,Int.reduceToNat,Int.reduceAdd,Int.reduceSub,Int.reduceMul,Int.reduceNeg,T_zs,psV,l1,l2,wm,hT,List.length_map]))
 refine Qa4 mixed (fun k:{k:Nat // k≤P.length}=>St.of [(0,.slc (P.map v3PV)),(1,.slc (T.map (PV.int .i64))),(6,.int .i64 (Qrq T k.1)),(21,.slc (T.map (PV.int .i64))),(22,.int .i64 (P.length:Int)),(23,.int .i64 (k.1:Int))] []) (fun k=>P.length-k.1) ⟨0,Nat.zero_le _⟩ ?_ ?_
 ·exact Qa3 (by simp [Qae,lkp,ren1,ren0,Qax,psV,Qrq])
 ·rintro⟨k,hk⟩;simp only;by_cases hA:k<P.length
  ·have hA':=lt_T hA;have n0:=nn_T k;have g1:=Q2d P k hA;have g2:=Q2e T k (by omega);have hwk:=wr_1 (n:=k) (by omega);have hpk:=Ql3 (P.getD k v0);rw [hp k hA]at hpk;obtain⟨t1,t2⟩:=ht k hA;have hnx:Qrq T (k+1)=T.getD k 0:=by simp [Qrq]
   have t1':(T.getD k 0≤Qrq T k)=False:=eq_false (by omega);have t2':(3600000<T.getD k 0)=False:=eq_false (by omega);generalize Qrq T k=L at*;generalize P.getD k v0=va at*;generalize T.getD k 0=ta at*;unfold v3PV at hpk;repeat (first|(simp -implicitDefEqProofs only [go_sem,Nat.reduceAdd,Nat.reduceMul,Nat.reduceEqDiff,Nat.reduceLT,Nat.reduceLeDiff,Nat.reduceSub,Nat.reduceBEq,reduceIte,reduceCtorEq,Int.reduceEq,Int.reduceNe,Nat.reduceBneDiff,Int.reduceLE,Int.reduceLT,Int.reduceToNat,Int.reduceAdd,Int.reduceSub,Int.reduceMul,Int.reduceNeg,T_zs,hA',n0,g1,g2,hwk,t1',t2',Int.toNat_natCast,List.length_map,Bool.not_true,decide_false])|((with_reducible refine Qab hpk ?_ ?_ ?_);rfl;rfl))
   refine⟨⟨k+1,hA⟩,by simp only;omega,?_⟩;simp only [hnx];exact Qa3 (by simp [Qae,lkp,ren1,ren0,Qax])
  ·have hA':=lt_F hA;obtain rfl:k=P.length:=by omega
   repeat (first|(simp -implicitDefEqProofs only [go_sem,Nat.reduceAdd,Nat.reduceMul,Nat.reduceEqDiff,Nat.reduceLT,Nat.reduceLeDiff,Nat.reduceSub,Nat.reduceBEq,reduceIte,reduceCtorEq,Int.reduceEq,Int.reduceNe,Nat.reduceBneDiff,Int.reduceLE,Int.reduceLT,Int.reduceToNat,Int.reduceAdd,Int.reduceSub,Int.reduceMul,Int.reduceNeg,T_zs,hA',l3,List.length_map])|((with_reducible refine Qab hL ?_ ?_ ?_);rfl;rfl))
   obtain⟨n,hn1⟩: ∃n,P.length-1=n+1:=⟨P.length-2,by omega⟩;generalize Qrp P T=S at*;have hSn:S.length=n+1:=by omega
   have hmin:min (S.map fun s=>[sgV s]).length (n+1+1)=n+1:=by rw [List.length_map];omega
   have htk:S.take (n+1)=S:=List.take_of_length_le (by omega);refine Q7d mixed hY rfl rfl _ rfl [(1000000,1300)] [1000000] rfl [(9,.bp 1000000 1 0 0)] (tuB S) rfl rfl ?_ ?_ ?_ (n+1) .normal (fun h=>by simp [hSn]at h) (fun k _ _=>Zp6 S k) ?_ rfl ?_
    [(0,1000000),(7,7)] [(9,.bp 0 1 0 0)] [(0,{els:=[.bs 7 6 0 (n+1)],esz:=1,ety:=27,fro:=0,live:=true,arr:=false}),(7,{els:=S.map sgV,esz:=6,ety:=46,fro:=0,live:=true,arr:=true})] rfl rfl ?_ ?_ (fun _=> ?_) (fun h=>by simp [hSn]at h)
   ·simp [Qae,lkp,ren1,ren0,Qax]
   ·exact⟨⟨rfl,rfl,rfl,rfl,rfl,.inr ⟨rfl,_,_,rfl,rfl,rfl,rfl⟩⟩,trivial⟩
   ·simp [Qae,lkp,ren1,ren0,Qax,Qvy]
   ·intro k args h;simp only [List.getElem?_map,Option.map_eq_some_iff]at h;obtain⟨x, -,rfl⟩:=h;rfl
   ·rintro k args hka hk;simp only [List.getElem?_map,Option.map_eq_some_iff]at hka;obtain⟨x,hx,rfl⟩:=hka;have hkl:k<S.length:=(List.getElem?_eq_some_iff.1 hx).1;have hlx:=Zgp hx;unfold sgV;cases k with
    |zero=>
     simp only [tuB];have e0:(S.take 0).map sgV=[]:=rfl;rw [e0,List.nil_append]at hlx;repeat (first|(simp -implicitDefEqProofs only [go_sem,Nat.reduceAdd,Nat.reduceMul,Nat.reduceEqDiff,Nat.reduceLT,Nat.reduceLeDiff,Nat.reduceSub,Nat.reduceBEq,reduceIte,reduceCtorEq,Int.reduceEq,Int.reduceNe,Nat.reduceBneDiff,Int.reduceLE,Int.reduceLT,Int.reduceToNat,Int.reduceAdd,Int.reduceSub,Int.reduceMul,Int.reduceNeg,T_zs,pvars,List.toList_toArray]))
     refine⟨by simp [lkp],?_⟩;repeat (first|(simp -implicitDefEqProofs only [go_sem,Nat.reduceAdd,Nat.reduceMul,Nat.reduceEqDiff,Nat.reduceLT,Nat.reduceLeDiff,Nat.reduceSub,Nat.reduceBEq,reduceIte,reduceCtorEq,Int.reduceEq,Int.reduceNe,Nat.reduceBneDiff,Int.reduceLE,Int.reduceLT,Int.reduceToNat,Int.reduceAdd,Int.reduceSub,Int.reduceMul,Int.reduceNeg,T_zs,Zgr]))
     refine⟨by omega,?_⟩;refine Qas (θ:=[(1000000,1000000),(7,1603)]) rfl ?_ ?_
     ·simp [Qae,lkp,ren1,ren0,Qax]
     ·simp only [tuB,hlx];exact⟨⟨rfl,rfl,rfl,rfl,rfl,.inr ⟨rfl,_,_,rfl,rfl,rfl,rfl⟩⟩,⟨rfl,rfl,rfl,rfl,rfl,.inl ⟨rfl,rfl⟩⟩,trivial⟩
    |succ k=>
     simp only [tuB];have b1:=Zgq (S:=S) (k:=k+1) (by omega);have b2:((((S.take (k+1)).map sgV).flatMap PV.cells).all PV.okCell)=true:=Zev _;have c1:((k+1+1)*96≤140737488355328)=True:=eq_true (by omega);have c2:(k+1+1≤maxLen)=True:=eq_true (by unfold maxLen;omega);generalize hTT:(S.take (k+1)).map sgV=TT at*;repeat (first|(simp -implicitDefEqProofs only [go_sem,Nat.reduceAdd,Nat.reduceMul,Nat.reduceEqDiff,Nat.reduceLT,Nat.reduceLeDiff,Nat.reduceSub,Nat.reduceBEq,reduceIte,reduceCtorEq,Int.reduceEq,Int.reduceNe,Nat.reduceBneDiff,Int.reduceLE,Int.reduceLT,Int.reduceToNat,Int.reduceAdd,Int.reduceSub,Int.reduceMul,Int.reduceNeg,T_zs,pvars,List.toList_toArray]))
     refine⟨by simp [lkp],?_⟩;repeat (first|(simp -implicitDefEqProofs only [go_sem,Nat.reduceAdd,Nat.reduceMul,Nat.reduceEqDiff,Nat.reduceLT,Nat.reduceLeDiff,Nat.reduceSub,Nat.reduceBEq,reduceIte,reduceCtorEq,Int.reduceEq,Int.reduceNe,Nat.reduceBneDiff,Int.reduceLE,Int.reduceLT,Int.reduceToNat,Int.reduceAdd,Int.reduceSub,Int.reduceMul,Int.reduceNeg,T_zs,b1,b2,c1,c2]))
     refine⟨by omega,?_⟩;refine Qas (θ:=[(1000000,1000000),(7,1603)]) rfl ?_ ?_
     ·simp [Qae,lkp,ren1,ren0,Qax]
     ·simp only [tuB,hlx];exact⟨⟨rfl,rfl,rfl,rfl,rfl,.inr ⟨rfl,_,_,rfl,rfl,rfl,rfl⟩⟩,⟨rfl,rfl,rfl,rfl,rfl,.inl ⟨rfl,rfl⟩⟩,trivial⟩
   ·simp [Qae,lkp,ren1,ren0,Qax]
   ·rw [hmin];simp only [tuB];rw [htk];exact⟨⟨rfl,rfl,rfl,rfl,rfl,.inr ⟨rfl,_,_,rfl,rfl,rfl,rfl⟩⟩,⟨rfl,rfl,rfl,rfl,rfl,.inl ⟨rfl,rfl⟩⟩,trivial⟩
   ·have b1:(S.map sgV).length=n+1:=by simp [hSn]
    have b2:(((S.map sgV).flatMap PV.cells).all PV.okCell)=true:=Zev _;have b3:(S.map sgV).take (n+1)=S.map sgV:=List.take_of_length_le (by omega);generalize S.map sgV=TT at*;repeat (first|(simp -implicitDefEqProofs only [go_sem,Nat.reduceAdd,Nat.reduceMul,Nat.reduceEqDiff,Nat.reduceLT,Nat.reduceLeDiff,Nat.reduceSub,Nat.reduceBEq,reduceIte,reduceCtorEq,Int.reduceEq,Int.reduceNe,Nat.reduceBneDiff,Int.reduceLE,Int.reduceLT,Int.reduceToNat,Int.reduceAdd,Int.reduceSub,Int.reduceMul,Int.reduceNeg,T_zs,b1,b2,b3]))
theorem Q2f (a b:V3) (r f t:Int):Qrp [a,up a r,up b r,b] [f,f+(t-f)/4,t-(t-f)/4,t]=arc3 a b r f t:=rfl
set_option maxRecDepth 100000 in
theorem Zm5 (a b:V3) (r f t:Int) (hg:Qja a b f t=true) (h4:(t-f)%4=0) (hr:0≤r∧r≤3600000) (ha:ptB (up a r)=true) (hb:ptB (up b r)=true):
  Qaf Tryz.prog 14 [v3PV a,v3PV b,.int .i64 r,.int .i64 f,.int .i64 t] (.tup [pV (arc3 a b r f t),.int .i64 0]):=by
 obtain⟨p1,p2,g1,g2,g3⟩:=Ql4 hg;have h1:=Qpp a b f t;rw [hg]at h1;have h2:=Ql3 (up a r);have h3:=Ql3 (up b r);rw [ha]at h2;rw [hb]at h3;obtain⟨q,hq⟩: ∃q,(t-f)/4=q:=⟨_,rfl⟩;have hq4:t-f=4*q:=by omega
 have i1:=Qlp.1 p1;have i2:=Qlp.1 p2;have i3:=Qlp.1 ha;have i4:=Qlp.1 hb;simp only [up]at i3 i4;have hT:=Zm4 [a,up a r,up b r,b] [f,f+q,t-q,t] (by simp) (by simp) rfl (by
  intro i hi;have:i=0∨i=1∨i=2∨i=3:=by simp at hi;omega
  rcases this with rfl|rfl|rfl|rfl
  ·exact p1
  ·exact ha
  ·exact hb
  ·exact p2) (by
  intro i hi;have:i=0∨i=1∨i=2∨i=3:=by simp at hi;omega
  rcases this with rfl|rfl|rfl|rfl<;>simp [Qrq]<;>omega)
 rw [←hq,Q2f]at hT;rw [hq]at hT;have w1:IntKind.i64.wrap (t-f)=t-f:=Qah (by omega) (by omega);have w2:IntKind.i64.wrap ((t-f).tdiv 4)=q:=by
  rw [Int.tdiv_eq_ediv_of_nonneg (by omega),hq];exact Qah (by omega) (by omega)
 have w3:IntKind.i64.wrap (4*q)=t-f:=by rw [←hq4];exact w1
 have w4:IntKind.i64.wrap (a.z+r)=a.z+r:=Qah (by omega) (by omega);have w5:IntKind.i64.wrap (b.z+r)=b.z+r:=Qah (by omega) (by omega);have w6:IntKind.i64.wrap (f+q)=f+q:=Qah (by omega) (by omega);have w7:IntKind.i64.wrap (t-q)=t-q:=Qah (by omega) (by omega);have wn:IntKind.i64.wrap (-2097152)= -2097152:=Qah (by decide) (by decide);have c1:((t-f) != (t-f))=false:=by simp
 have c2:(r< -2097152)=False:=eq_false (by omega);have c3:(2097152<r)=False:=eq_false (by omega);generalize arc3 a b r f t=S at*;unfold pV;unfold psV pV at hT;unfold v3PV up at h2 h3;unfold v3PV at h1 ⊢;simp only [List.map_cons,List.map_nil,v3PV,up]at hT;refine Qac (tb:=[]) 76 [.tmp 10,.tmp 11] [0,1,2,3,4,5,6,10,11,12,13,14,20,38,58] mixed Tryz.func14 rfl (by kernel_rfl) (by kernel_rfl) (by kernel_rfl) (by kernel_rfl) ?_;repeat (first|(simp -implicitDefEqProofs only [go_sem,Nat.reduceAdd,Nat.reduceMul,Nat.reduceEqDiff,Nat.reduceLT,Nat.reduceLeDiff,Nat.reduceSub,Nat.reduceBEq,reduceIte,reduceCtorEq,Int.reduceEq,Int.reduceNe,Nat.reduceBneDiff,Int.reduceLE,Int.reduceLT,Int.reduceToNat,Int.reduceAdd,Int.reduceSub,Int.reduceMul,Int.reduceNeg,T_zs,w1,w2,w3,w4,w5,w6,w7,wn,c1,c2,c3,Bool.not_true,decide_false])|((with_reducible refine Qab h1 ?_ ?_ ?_);rfl;rfl)|((with_reducible refine Qab h2 ?_ ?_ ?_);rfl;rfl)|((with_reducible refine Qab h3 ?_ ?_ ?_);rfl;rfl)|((with_reducible refine Qab hT ?_ ?_ ?_);rfl;rfl)|(with_reducible exact Qaa _ _ (by kernel_rfl))|(with_reducible refine And.intro (Qaa _ _ (by kernel_rfl)) ?_))
end Go.Proofs.YtobaaecbdlhpdaaGreat

namespace Go.Dg
end Go.Dg

namespace Go.Dg
theorem Qey (F:Nat→Int) (n j:Nat) (h:j<n):((List.range n).map F).getD j 0=F j:=by simp [List.getD_eq_getElem?_getD,h]
def binL (n:Nat):List Int:=(List.range (n+1)).map fun j=>(bin n j:Int)
theorem Qt6 (n:Nat):(binL n).length=n+1:=by simp [binL]
theorem Q79 (n:Nat) (x y:Int):hev (binL n) x y=(x+y)^n:=by rw [binL,Qk6,Qlv]
def pieces (n:Nat):Nat→List Int→List (List Int)
 |0,f=>[f]
 |d+1,f=>pieces n d (Zmr f n)++pieces n d (Zms f n)
end Go.Dg

namespace Go.Dg
def linA (α β:Int):List Int→Int→List Int
 | [],k=>[k]
 |c::q,k=>(k+β*c)::linA α β q (α*c)
theorem Qo0 (α β:Int): ∀(l:List Int) (k:Int),(linA α β l k).length=l.length+1
 | [],_=>rfl
 |c::q,k=>by simp [linA,Qo0 α β q]
theorem Qv1 (α β x y:Int): ∀(l:List Int) (k:Int),hev (linA α β l k) x y=k*y^l.length+(α*x+β*y)*hev l x y
 | [],k=>by simp [linA,hev]
 |c::q,k=>by
  rw [linA,hev,Qo0,Qv1 α β x y q,hev,List.length_cons];have e:y^(q.length+1)=y*y^q.length:=Qkt y _;rw [e];generalize y^q.length=Y;generalize hev q x y=V;simp only [Int.add_mul,Int.mul_add];have h1:β*c*(y*Y)=β*y*(c*Y):=by simp only [Int.mul_comm,Int.mul_left_comm,Int.mul_assoc]
  have h2:x*(α*c*Y)=α*x*(c*Y):=by simp only [Int.mul_comm,Int.mul_left_comm,Int.mul_assoc]
  have h3:x*(α*x*V)=α*x*(x*V):=by simp only [Int.mul_comm,Int.mul_left_comm,Int.mul_assoc]
  have h4:x*(β*y*V)=β*y*(x*V):=by simp only [Int.mul_comm,Int.mul_left_comm,Int.mul_assoc]
  rw [h1,h2,h3,h4];omega
theorem Q0v {α β:Int} (ha:0≤α) (hb:0≤β): ∀(l:List Int) (k:Int),(∀c∈l,0≤c)→0≤k→ ∀c∈linA α β l k,0≤c
 | [],k,_,hk=>by intro c hc;simp [linA]at hc;omega
 |c::q,k,hl,hk=>by
  intro z hz;have hc:=hl c (by simp);rcases List.mem_cons.1 hz with rfl|hz
  ·have:=Int.mul_nonneg hb hc;omega
  ·exact Q0v ha hb q (α*c) (fun c hc=>hl c (by simp [hc])) (Int.mul_nonneg ha hc) z hz
def pwL (α β:Int) (l:List Int):Nat→List Int
 |0=>l
 |m+1=>linA α β (pwL α β l m) 0
theorem Qtf (α β:Int) (l:List Int): ∀m,(pwL α β l m).length=l.length+m
 |0=>rfl
 |m+1=>by rw [pwL,Qo0,Qtf α β l m];omega
theorem Qtg (α β:Int) (l:List Int) (x y:Int): ∀m,hev (pwL α β l m) x y=(α*x+β*y)^m*hev l x y
 |0=>by simp [pwL]
 |m+1=>by rw [pwL,Qv1,Qtg α β l x y m,Int.zero_mul,Int.zero_add,Qkt,Int.mul_assoc]
theorem Q0w {α β:Int} (ha:0≤α) (hb:0≤β) {l:List Int} (hl: ∀c∈l,0≤c): ∀m,∀c∈pwL α β l m,0≤c
 |0=>hl
 |m+1=>Q0v ha hb _ _ (Q0w ha hb hl m) (Int.le_refl 0)
def gL (e1 e0 g1 g0:Int) (n j:Nat):List Int:=pwL e1 e0 (pwL g1 g0 [1] (n-j)) j
theorem Zl5 (e1 e0 g1 g0:Int) {n j:Nat} (h:j≤n):(gL e1 e0 g1 g0 n j).length=n+1:=by
 unfold gL;rw [Qtf,Qtf];simp;omega
theorem Zl6 (e1 e0 g1 g0 x y:Int) (n j:Nat):hev (gL e1 e0 g1 g0 n j) x y=(e1*x+e0*y)^j*(g1*x+g0*y)^(n-j):=by
 unfold gL;rw [Qtg,Qtg];simp [hev]
theorem Zpz {e1 e0 g1 g0:Int} (h1:0≤e1) (h2:0≤e0) (h3:0≤g1) (h4:0≤g0) (n j i:Nat):0≤(gL e1 e0 g1 g0 n j).getD i 0:=by
 have h: ∀c∈gL e1 e0 g1 g0 n j,0≤c:=Q0w h1 h2 (Q0w h3 h4 (by simp) _) _;rw [List.getD_eq_getElem?_getD];cases e:(gL e1 e0 g1 g0 n j)[i]? with
 |none=>exact Int.le_refl 0
 |some c=>exact h c (List.mem_of_getElem? e)
def subH (H:List Int) (e1 e0 g1 g0:Int) (n:Nat):List Int:=(List.range (n+1)).map fun i=>sm (fun j=>H.getD j 0*(gL e1 e0 g1 g0 n j).getD i 0) (n+1)
theorem Q7e (H:List Int) (e1 e0 g1 g0:Int) (n:Nat):(subH H e1 e0 g1 g0 n).length=n+1:=by simp [subH]
theorem Qv2 {H:List Int} {n:Nat} (hH:H.length=n+1) (e1 e0 g1 g0 x y:Int):hev (subH H e1 e0 g1 g0 n) x y=hev H (e1*x+e0*y) (g1*x+g0*y):=by
 rw [subH,Qk6,Qga H,hH];have e1': ∀i,i<n+1→sm (fun j=>H.getD j 0*(gL e1 e0 g1 g0 n j).getD i 0) (n+1)*(x^i*y^(n-i))=sm (fun j=>H.getD j 0*((gL e1 e0 g1 g0 n j).getD i 0*(x^i*y^(n-i)))) (n+1):=by
  intro i _;rw [←Qjd];exact Qa8 _ fun j _=>by rw [Int.mul_assoc]
 rw [Qa8 _ e1',Q1k];refine Qa8 _ fun j hj=> ?_;rw [Qcx];congr 1;have h:=Qga (gL e1 e0 g1 g0 n j) x y;rw [Zl6,Zl5 e1 e0 g1 g0 (show j≤n by omega)]at h;simp only [Nat.add_sub_cancel]at h ⊢;exact h.symm
theorem Qv3 (H:List Int) (e1 e0 g1 g0:Int) (n i:Nat) (h:i≤n):(subH H e1 e0 g1 g0 n).getD i 0=sm (fun j=>H.getD j 0*(gL e1 e0 g1 g0 n j).getD i 0) (n+1):=Qey _ _ _ (by omega)
theorem Q7f (a b:Int): ∀n:Nat,(a*b)^n=a^n*b^n:=Qpi a b
theorem Zl7 {e1 e0 g1 g0 d:Int} (h1:e1+g1=d) (h0:e0+g0=d) (n i:Nat) (hi:i≤n):sm (fun j=>(bin n j:Int)*(gL e1 e0 g1 g0 n j).getD i 0) (n+1)=d^n*(bin n i:Int):=by
 have key:subH (binL n) e1 e0 g1 g0 n=(List.range (n+1)).map fun i=>d^n*(bin n i:Int):=by
  refine Qg0 (by simp [subH]) fun x _=> ?_;rw [Qv2 (Qt6 n),Q79,Qk6];have e:e1*x+e0*1+(g1*x+g0*1)=d*(x+1):=by
   rw [←h1,Int.add_mul,Int.mul_add,Int.mul_add];omega
  rw [e,Q7f,←Qlv x 1 n,←Qcx];exact Qa8 _ fun j _=>by rw [Int.mul_assoc]
 have h2:(subH (binL n) e1 e0 g1 g0 n).getD i 0=((List.range (n+1)).map fun i=>d^n*(bin n i:Int)).getD i 0:=by rw [key]
 rw [Qv3 _ _ _ _ _ _ _ hi,Qey _ _ _ (by omega)]at h2;rw [←h2];refine Qa8 _ fun j hj=> ?_;rw [binL,Qey _ _ _ hj]
theorem Q0x {H:List Int} {e1 e0 g1 g0 d M:Int} (h1:0≤e1) (h2:0≤e0) (h3:0≤g1) (h4:0≤g0) (k1:e1+g1=d) (k0:e0+g0=d) {n:Nat}
  (hb: ∀j,j≤n→ -(M*(bin n j:Int))≤60*H.getD j 0∧60*H.getD j 0≤M*(bin n j:Int)) (i:Nat) (hi:i≤n):
  -(M*d^n*(bin n i:Int))≤60*(subH H e1 e0 g1 g0 n).getD i 0∧60*(subH H e1 e0 g1 g0 n).getD i 0≤M*d^n*(bin n i:Int):=by
 rw [Qv3 _ _ _ _ _ _ _ hi,Int.mul_assoc,←Zl7 k1 k0 n i hi,←Qcx,←Qcx];have hw:=Zpz h1 h2 h3 h4 n;constructor
 ·have e: -(sm (fun j=>M*((bin n j:Int)*(gL e1 e0 g1 g0 n j).getD i 0)) (n+1))=sm (fun j=> -1*(M*((bin n j:Int)*(gL e1 e0 g1 g0 n j).getD i 0))) (n+1):=by rw [Qcx (-1)];omega
  rw [e];refine Q1l _ fun j hj=> ?_;have:=Int.mul_le_mul_of_nonneg_right (hb j (by omega)).1 (hw j i);rw [Int.neg_mul,Int.mul_assoc,Int.mul_assoc]at this;omega
 ·refine Q1l _ fun j hj=> ?_;have:=Int.mul_le_mul_of_nonneg_right (hb j (by omega)).2 (hw j i);rw [Int.mul_assoc,Int.mul_assoc]at this;exact this
end Go.Dg

namespace Go.Dg
theorem Qye (c:List Int) (m a d:Int) (k:Nat) (h:k≤5):plcT c (m*a) (m*d) k=m^5*plcT c a d k:=by
 unfold plcT;have e:m^5=m^k*m^(5-k):=by rw [←Int.pow_add];congr 1;omega
 rw [Int.mul_pow,Int.mul_pow,e];simp only [Int.mul_comm,Int.mul_left_comm,Int.mul_assoc]
theorem Qrl (c:List Int) (m a d:Int) (h:c.length≤6):plc c (m*a) (m*d)=m^5*plc c a d:=by
 unfold plc;have key: ∀n,n≤6→sm (plcT c (m*a) (m*d)) n=m^5*sm (plcT c a d) n:=by
  intro n
  induction n with
  |zero=>intro _;simp [sm]
  |succ n ih=>intro hn;simp only [sm];rw [ih (by omega),Qye c m a d n (by omega),Int.mul_add]
 exact key _ h
theorem Qrm (s:Sg) (m:Nat) (a d:Int) (h: ∀c∈s.ax,c.length≤6): ∀i,i≤3→plG s (m*a) (m*d) i=m^5*plG s a d i:=by
 intro i hi
 induction i with
 |zero=>
  show(s.o*((m:Int)*d)^5).natAbs=m^5*(s.o*d^5).natAbs;rw [Int.mul_pow,Int.mul_left_comm,Int.natAbs_mul,Int.natAbs_pow,Int.natAbs_natCast]
 |succ i ih=>
  rw [Qd2,Qd2,ih (by omega)];have e:plP s (m*a) (m*d) i=(m:Int)^5*plP s a d i:=Qrl _ _ _ _ (h _ (Qjg s i (by omega)));rw [e,Int.natAbs_mul,Int.natAbs_pow,Int.natAbs_natCast,Nat.gcd_mul_left]
theorem Q16 (s:Sg) (m:Nat) (a d:Int) (hm:0<m) (h: ∀c∈s.ax,c.length≤6) (i:Nat) (hi:i<3):plQ s (m*a) (m*d) i=plQ s a d i:=by
 have e:plP s (m*a) (m*d) i=(m:Int)^5*plP s a d i:=Qrl _ _ _ _ (h _ (Qjg s i hi));unfold plQ;rw [e,Qrm s m a d h 3 (by decide),Int.natCast_mul,Int.natCast_pow];exact Int.mul_ediv_mul_of_pos _ _ (Int.pow_pos (by omega))
theorem Q17 (s:Sg) (m:Nat) (a d:Int) (hm:0<m) (h: ∀c∈s.ax,c.length≤6):plO s (m*a) (m*d)=plO s a d:=by
 unfold plO;rw [Qrm s m a d h 3 (by decide),Int.natCast_mul,Int.natCast_pow,Int.mul_pow,Int.mul_left_comm];exact Int.mul_ediv_mul_of_pos _ _ (Int.pow_pos (by omega))
end Go.Dg

namespace Go.Dg
theorem Qth: ∀(p:List Int) (n:Nat) (x:Int),p.length=n+1→hev p x 0=p.getD n 0*x^n
 | [],_,_,h=>by simp at h
 | [c],n,x,h=>by
  have:n=0:=by simpa using h.symm
  subst this;simp [hev]
 |c::d::q,n,x,h=>by
  obtain⟨m,rfl⟩: ∃m,n=m+1:=⟨n-1,by simp at h;omega⟩;have ih:=Qth (d::q) m x (by simpa using h);rw [hev,ih,List.length_cons,List.getD_cons_succ,Qkt x m,Qkt 0];rw [Int.zero_mul,Int.mul_zero,Int.zero_add,Int.mul_left_comm]
theorem Qky: ∀(p:List Int) (k x y:Int),hev (p.map (· *k)) x y=k*hev p x y
 | [],k,x,y=>by simp [hev]
 |c::q,k,x,y=>by
  rw [List.map_cons,hev,Qky q k,List.length_map,hev,Int.mul_add];congr 1
  ·rw [Int.mul_comm c k,Int.mul_assoc]
  ·rw [Int.mul_left_comm]
theorem Qll (p:List Int) (k:Int) (i:Nat):(p.map (· *k)).getD i 0=p.getD i 0*k:=by
 rw [List.getD_eq_getElem?_getD,List.getD_eq_getElem?_getD,List.getElem?_map];cases p[i]? <;>simp
def Kq (c:List Int) (a b d:Int):List Int:=(subH (trans c 1 (c.length-1)) (a+b) a (d-a-b) (d-a) (c.length-1)).map (· *d^(6-c.length))
def cq (c:List Int) (a b d:Int):List Int:=trans (Kq c a b d) (-1) (c.length-1)
section
variable {c:List Int} {n:Nat} (hc:c.length=n+1) (a b d:Int)
include hc
theorem Q0y:(Kq c a b d).length=n+1:=by
 unfold Kq;rw [List.length_map,Q7e];omega
theorem Qfz:(cq c a b d).length=n+1:=by
 unfold cq;rw [Qeq];omega
theorem Zl8 (x z:Int):hev (Kq c a b d) x z=d^(5-n)*hev c ((a+b)*x+a*z) (d*(x+z)):=by
 have hn:c.length-1=n:=by omega
 unfold Kq;rw [Qky,hn,Qv2 (Qeq c 1 n),Qe3 hc];have e:6-c.length=5-n:=by omega
 rw [e];congr 2;simp only [Int.one_mul,Int.sub_mul,Int.add_mul,Int.mul_add];omega
theorem Qlm (x y:Int):hev (cq c a b d) x y=d^(5-n)*hev c (a*y+b*x) (d*y):=by
 have hn:c.length-1=n:=by omega
 unfold cq;rw [hn,Qe3 (Q0y hc a b d),Zl8 hc];have e1:(a+b)*x+a*(-1*x+y)=a*y+b*x:=by
  simp only [Int.add_mul,Int.mul_add,Int.neg_mul,Int.one_mul,Int.mul_neg];omega
 have e2:x+(-1*x+y)=y:=by omega
 rw [e1,e2]
theorem Zem:(cq c a b d).getD n 0=d^(5-n)*(c.getD n 0*b^n):=by
 have h:=Qth (cq c a b d) n 1 (Qfz hc a b d);rw [Qlm hc,Int.mul_zero,Int.mul_zero,Int.zero_add,Int.mul_one,Qth c n b hc,Int.one_pow,Int.mul_one]at h;exact h.symm
theorem Q7g:trans (cq c a b d) 1 n=Kq c a b d:=by
 have hn:c.length-1=n:=by omega
 refine Qg0 (by rw [Qeq,Q0y hc]) fun x _=> ?_;rw [Qe3 (Qfz hc a b d)];unfold cq;rw [hn,Qe3 (Q0y hc a b d)];congr 1;omega
theorem Zl9 (hn:n≤5) (u w:Int):plc (cq c a b d) u w=plc c (a*w+b*u) (d*w):=by
 rw [Qt3 (Qfz hc a b d) hn,Qlm hc,Qt3 hc hn,Int.mul_pow,←Int.mul_assoc,Int.mul_comm (w^(5-n))]
theorem Zma (hn:n≤5) (h0:0≤a) (h1:a≤d) (h2:0≤a+b) (h3:a+b≤d) {M:Int} (hM: ∀j,j≤n→ -M≤ctl c j∧ctl c j≤M) (j:Nat) (hj:j≤n):
  -(M*d^5)≤ctl (cq c a b d) j∧ctl (cq c a b d) j≤M*d^5:=by
 have hn1:c.length-1=n:=by omega
 have hd:0≤d:=by omega
 have hH: ∀j,j≤n→ -(M*(bin n j:Int))≤60*(trans c 1 n).getD j 0∧60*(trans c 1 n).getD j 0≤M*(bin n j:Int):=by
  intro j hj;have hp:(0:Int)≤(bin n j:Int):=Int.natCast_nonneg _;have:=hM j hj;rw [←Ql0 hc hn hj,Int.mul_comm (bin n j:Int),←Int.neg_mul];exact⟨Int.mul_le_mul_of_nonneg_right this.1 hp,Int.mul_le_mul_of_nonneg_right this.2 hp⟩
 have hs:=Q0x (d:=d) (M:=M) h2 h0 (show 0≤d-a-b by omega) (show 0≤d-a by omega) (by omega) (by omega) hH j hj;have hk:(Kq c a b d).getD j 0=(subH (trans c 1 n) (a+b) a (d-a-b) (d-a) n).getD j 0*d^(5-n):=by
  unfold Kq;have e:6-c.length=5-n:=by omega
  rw [Qll,hn1,e]
 have ht:=Ql0 (Qfz hc a b d) hn hj;rw [Q7g hc,hk]at ht;have hb:(0:Int)<(bin n j:Int):=by have:=Qtt hj;omega
 have hD:0≤d^(5-n):=Int.pow_nonneg hd;have hdd:d^5=d^n*d^(5-n):=by rw [←Int.pow_add];congr 1;omega
 rw [hdd];generalize (subH (trans c 1 n) (a+b) a (d-a-b) (d-a) n).getD j 0=S at*;generalize d^(5-n)=D at*;generalize d^n=E at*;generalize ctl (cq c a b d) j=X at*;generalize (bin n j:Int)=Bn at*;have u1:=Int.mul_le_mul_of_nonneg_right hs.1 hD;have u2:=Int.mul_le_mul_of_nonneg_right hs.2 hD;rw [Int.mul_assoc 60 S D,←ht]at u1 u2;constructor
 ·refine Int.le_of_mul_le_mul_left (a:=Bn) ?_ hb;have e:Bn* -(M*(E*D))= -(M*E*Bn)*D:=by
   rw [Int.mul_neg,Int.neg_mul];congr 1;simp only [Int.mul_comm,Int.mul_left_comm,Int.mul_assoc]
  rw [e];exact u1
 ·refine Int.le_of_mul_le_mul_left (a:=Bn) ?_ hb;have e:Bn*(M*(E*D))=M*E*Bn*D:=by simp only [Int.mul_comm,Int.mul_left_comm,Int.mul_assoc]
  rw [e];exact u2
theorem Q7h {l:List Int} {n:Nat} (hl:l.length=n+1) (h:l.getD n 0≠0):Qao l=l:=by
 have _hc:=hc;rcases Qoa (c:=l) (fun _=>by rw [hl];exact h) (by omega)with e|e
 ·exact e
 ·subst e;have:n=0:=by simpa using hl.symm
  subst this;simp at h
theorem Qv4 (hn:n≤5) (hl:1<c.length→c.getD (c.length-1) 0≠0):cmpC c a b d=Qao (cq c a b d):=by
 have e1:cmpC c a b d=Qao (cmpC c a b d):=by unfold cmpC Qee;rw [Qg1]
 rw [e1];refine Qtv _ _ fun u _=> ?_;unfold cmpC;rw [Qlx,Q19,Q1q,Qlm hc,Int.mul_one,Int.mul_one];have e:6-c.length=5-n:=by omega
 rw [e,Int.mul_comm];congr 1;rcases Qoa hl (by omega)with h|h
 ·rw [h]
 ·rw [h];simp [Qao,hev]
theorem Zp0 (hn:n≤5) (hl:1<c.length→c.getD (c.length-1) 0≠0) (hb:b≠0) (hd:d≠0) (G:Int):mkC G (cmpC c a b d)=(cq c a b d).map (· /G):=by
 rw [Qv4 hc a b d hn hl];have hq:=Qfz hc a b d;by_cases ht:(cq c a b d).getD n 0=0
 ·have hn0:n=0:=by
   rcases Nat.eq_zero_or_pos n with h|h
   ·exact h
   ·exfalso;rw [Zem hc]at ht;have h1:=hl (by omega);have e:c.length-1=n:=by omega
    rw [e]at h1;rcases Int.mul_eq_zero.1 ht with h2|h2
    ·exact Int.pow_ne_zero hd h2
    ·rcases Int.mul_eq_zero.1 h2 with h3|h3
     ·exact h1 h3
     ·exact Int.pow_ne_zero hb h3
  subst hn0
  match hcq:cq c a b d,hq with
  | [x],_=>
   rw [hcq]at ht;have hx:x=0:=by simpa using ht
   subst hx;simp [Qao,mkC]
 ·rw [Q7h hc hq ht];unfold mkC;rw [if_neg (by intro e;rw [e]at hq;simp at hq)]
end
theorem Qnz {x:Int}: ∀{l:List Int},x∈l→x=0∨x∈Qao l
 | [],h=>nomatch h
 |c::r,h=>by
  rw [Qb2];rcases List.mem_cons.1 h with rfl|h
  ·split
   ·split
    ·rename_i h0;exact .inl h0
    ·exact .inr (by simp)
   ·exact .inr (by simp)
  ·rcases Qnz h with h0|h0
   ·exact .inl h0
   ·right;split
    ·rename_i e;rw [e]at h0;exact nomatch h0
    ·exact List.mem_cons_of_mem _ h0
theorem Q7i (c:List Int) (k:Int) (j:Nat):ctl (c.map (· *k)) j=ctl c j*k:=by
 unfold ctl;rw [List.length_map,←Qjd];exact Qa8 _ fun i _=>by rw [Qll];simp only [Int.mul_comm,Int.mul_left_comm,Int.mul_assoc]
theorem Qv5 {l:List Int} {G:Int} (h: ∀x∈l,G∣x):(l.map (· /G)).map (· *G)=l:=by
 rw [List.map_map]
 conv=>rhs;rw [←List.map_id l]
 exact List.map_congr_left fun x hx=>Int.ediv_mul_cancel (h x hx)
theorem Qcf {k:Nat}: ∀{c:List Int} {g:Nat},k∣g→(∀x∈c,k∣x.natAbs)→k∣gcdL g c
 | [],_,hg,_=>hg
 |x::c,g,hg,h=>Qcf (c:=c) (g:=Nat.gcd g x.natAbs) (Nat.dvd_gcd hg (h x (by simp))) fun y hy=>h y (by simp [hy])
end Go.Dg
