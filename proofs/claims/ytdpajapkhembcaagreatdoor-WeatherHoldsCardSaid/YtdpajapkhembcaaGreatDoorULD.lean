/-
  QP1, QP2, Dr, QN1, Bn, QN2, Ds, QP3, US4, UX, UX1, UXS, Dwi, QI1, ULD (merged for the claim).
-/
import Derived.Test.YtdpajapkhembcaaGreatDoorDq
import Derived.Test.YtdpajapkhembcaaGreatDoorQW3
import Derived.Test.YtdpajapkhembcaaGreatDoorQW25
import Derived.Test.YtdpajapkhembcaaGreatDoorUV
import Derived.Test.YtdpajapkhembcaaGreatDoorUO
set_option linter.unusedSimpArgs false
set_option linter.unusedVariables false
namespace Go.Proofs.YtdpajapkhembcaaGreatDoor
open Go.Vl Go.RowKit Go.Dg
theorem Qpz {x y:Int} {B:Nat} (hx:x.natAbs<2^B) (hy:y.natAbs<2^B):(x+y).natAbs<2^(B+1):=by
 rw [Nat.pow_succ];generalize 2^B=K at*;omega
theorem Q78 {x y:Int} {B C:Nat} (hx:x.natAbs<2^B) (hy:y.natAbs<2^C):(x*y).natAbs<2^(B+C):=by
 rw [Int.natAbs_mul,Nat.pow_add];exact Nat.mul_lt_mul'' hx hy
theorem Zqo {x:Int} (h:x.natAbs<2^65536):(digs 256 x.natAbs).length≤8192:=(Qas (by decide) x.natAbs 8192).2 (Zyp (k:=8192) h (by decide))
theorem Qmd {n:Int} (h:n.natAbs<2^65536):Qfc n= .tup [wPV n,.int .i64 0]:=by
 rw [Qfc,if_neg (Nat.not_lt.2 (Qdl 65536 _ h))]
abbrev mB (x:Int):ByteArray:=⟨(magL x.natAbs).toArray⟩
theorem Qcn {x:Int} (h:x.natAbs<2^65536):(mB x).size≤100000:=by rw [Qnc];have:=Zqo h;omega
theorem Qc7 {x:Int} (h:x.natAbs<2^65536):Qbl (decide (x<0)) (mB x).data.toList=true:=Qim x (Zqo h)
theorem Qrk (x:Int):(bnum (mB x).data.toList)=x.natAbs:=by
 have h:=Qbk x;unfold wnum at h;have h2:=congrArg Int.natAbs h
 rwa [Zda]at h2
theorem Z0w {x y:Int} (hx:x.natAbs<2^65536) (hy:y.natAbs<2^65536):Qaf Tryz.prog 140 [wPV x,wPV y] (Qfc (x*y)):=by
 have h:=Z1y (decide (x<0)) (decide (y<0)) (mB x) (mB y) (Qc7 hx) (Qc7 hy) (Qcn hx) (Qcn hy)
 rwa [Qbk,Qbk]at h
theorem Z0x {x y:Int} (hx:x.natAbs<2^65536) (hy:y.natAbs<2^65536):Qaf Tryz.prog 103 [wPV x,wPV y] (Qfc (x+y)):=by
 have h:=Z1u (decide (x<0)) (decide (y<0)) (mB x) (mB y) (Qc7 hx) (Qc7 hy) (Qcn hx) (Qcn hy)
 rwa [Qbk,Qbk]at h
theorem Z0y {x y:Int} (hx:x.natAbs<2^65536) (hy:y.natAbs<2^65536):Qaf Tryz.prog 122 [wPV x,wPV y] (Qfc ((Nat.gcd x.natAbs y.natAbs:Nat):Int)):=by
 have h:=Z1z (decide (x<0)) (decide (y<0)) (mB x) (mB y) (Qc7 hx) (Qc7 hy) (Qcn hx) (Qcn hy)
 rwa [Qrk,Qrk]at h
theorem Qzh {x:Int} (hx:x.natAbs<2^65536):Qaf Tryz.prog 71 [wPV x] (Qfk x):=by
 have h:=Z1w (decide (x<0)) (mB x) (Qc7 hx) (Qcn hx)
 rwa [Qbk]at h
theorem Q1c {x y:Int} (hx:x.natAbs<2^65536) (hy:y.natAbs<2^65536):Qaf Tryz.prog 121 [wPV x,wPV y] (.int .i64 (x-y).sign):=by
 have h:=Q27 (decide (x<0)) (decide (y<0)) (mB x) (mB y) (Qc7 hx) (Qc7 hy) (Qcn hx) (Qcn hy)
 rwa [Qbk,Qbk]at h
theorem Z0z {x:Int} (h:x≠0):(mB x).data.toList≠ []:=fun e=>h ((Qmh x).1 e)
theorem Z00 {x y:Int} (hx:x.natAbs<2^65536) (hy:y.natAbs<2^65536) (h0:y≠0):Qaf Tryz.prog 102 [wPV x,wPV y] (Zom x y):=by
 have h:=Z11 (decide (x<0)) (decide (y<0)) (mB x) (mB y) (Qc7 hx) (Qc7 hy) (Z0z h0) (Qcn hx) (Qcn hy)
 rwa [Qbk,Qbk]at h
theorem Qtz {x y:Int} (hx:x.natAbs<2^65536) (hy:y.natAbs<2^65536) (h0:0<y):vRat (decide (x<0)) (mB x) (decide (y<0)) (mB y)=true:=by
 unfold vRat;rw [Qc7 hx,Qc7 hy,Qmg (Z0z (show y≠0 by omega))];have:decide (y<0)=false:=by simp;omega
 rw [this];rfl
theorem Qwa {a b c d:Int} (ha:a.natAbs<2^65536) (hb:b.natAbs<2^65536) (hc:c.natAbs<2^65536) (hd:d.natAbs<2^65536) (b0:0<b) (d0:0<d):
  Qaf Tryz.prog 149 [Qdz a b,Qdz c d] (outQ (Zoo a b c d) (Zop a b c d)):=by
 have h:=Qw6 (decide (a<0)) (decide (b<0)) (decide (c<0)) (decide (d<0)) (mB a) (mB b) (mB c) (mB d) (Qtz ha hb b0) (Qtz hc hd d0) (Qcn ha) (Qcn hb) (Qcn hc) (Qcn hd)
 rwa [Qbk,Qbk,Qbk,Qbk]at h
theorem Qwb {a b c d:Int} (ha:a.natAbs<2^65536) (hb:b.natAbs<2^65536) (hc:c.natAbs<2^65536) (hd:d.natAbs<2^65536) (b0:0<b) (d0:0<d):
  Qaf Tryz.prog 150 [Qdz a b,Qdz c d] (outQ (lowN (a*c) (b*d)) (lowD (a*c) (b*d))):=by
 have h:=Qw7 (decide (a<0)) (decide (b<0)) (decide (c<0)) (decide (d<0)) (mB a) (mB b) (mB c) (mB d) (Qtz ha hb b0) (Qtz hc hd d0) (Qcn ha) (Qcn hb) (Qcn hc) (Qcn hd)
 rwa [Qbk,Qbk,Qbk,Qbk]at h
theorem Zg9 {a b:Int} (ha:a.natAbs<2^65536) (hb:b.natAbs<2^65536) (b0:0<b):Qaf Tryz.prog 151 [Qdz a b] (Qfc (a/b)):=by
 have h:=Zoq (decide (a<0)) (decide (b<0)) (mB a) (mB b) (Qtz ha hb b0) (Qcn ha) (Qcn hb)
 rwa [Qbk,Qbk]at h
theorem Z01 (a b:ByteArray):(a==b)=(a.data==b.data):=rfl
theorem Zti {α:Type} {p:α→Bool} {l:List α} {i:Nat} (hi:i<l.length) (hp:p l[i]=false):l.all p=false:=by
 rw [List.all_eq_false];exact⟨l[i],List.getElem_mem hi,by simp [hp]⟩
theorem Qcp {α:Type} (l:List α) (i:Nat) (hi:i<l.length):l.take (i+1)=l.take i++[l[i]]:=by rw [List.take_add_one];simp [hi]
theorem ltT {i n:Nat} (h:i<n):((i:Int)<(n:Int))=True:=by simp only [eq_iff_iff,iff_true];omega
theorem ltF {i n:Nat} (h: ¬i<n):((i:Int)<(n:Int))=False:=by simp only [eq_iff_iff,iff_false];omega
theorem nnT (i:Nat):((0:Int)≤(i:Int))=True:=by simp
end Go.Proofs.YtdpajapkhembcaaGreatDoor

namespace Go.Dg
theorem Zp6 {f:Nat→Int} {C:Nat}: ∀(m:Nat),(∀i,i<m→(f i).natAbs≤C)→(sm f m).natAbs≤m*C
 |0,_=>by simp [sm]
 |m+1,h=>by
  have h1:=Zp6 m (fun i hi=>h i (by omega));have h2:=h m (Nat.lt_succ_self m);rw [sm,Nat.succ_mul];omega
theorem Zfh {xs:List Int} {B:Nat} (h: ∀x∈xs,x.natAbs<2^B) (i:Nat):(xs.getD i 0).natAbs<2^B:=by
 rw [List.getD_eq_getElem?_getD];cases e:xs[i]? with
 |none=>exact Nat.pow_pos (by decide)
 |some x=>exact h x (List.mem_of_getElem? e)
end Go.Dg

namespace Go.Proofs.YtdpajapkhembcaaGreatDoor
open Go.Vl Go.RowKit Go.Dg
end Go.Proofs.YtdpajapkhembcaaGreatDoor

namespace Go.Vl
def Qkz:PV→PV
 | .nilS=> .slc []
 |v=>v
def Zq3:PV→PV
 | .agg cs=> .agg (cs.map Qkz)
 |v=>Qkz v
theorem Qmp (v:PV):(Zq3 v).cells=v.cells.map Qkz:=by
 cases v<;>rfl
theorem Qph (l:List PV):(l.map Zq3).flatMap PV.cells=(l.flatMap PV.cells).map Qkz:=by
 induction l with
 |nil=>rfl
 |cons v l ih=>simp only [List.map_cons,List.flatMap_cons,List.map_append,Qmp,ih]
theorem Rep.up {w:World} {im:Im} {v:PV} {u:Value} (h:Rep w im v u):Rep w im (Qkz v) u:=by
 cases v with
 |nilS=>cases h;exact .slcNil 0 (Nat.zero_le _)
 |_=>exact h
theorem LR.up {w:World} {im:Im} {ρ:Rho} {v:PV} {u:Value} (h:LR w im ρ v u):LR w im ρ (Qkz v) u:=by
 cases v with
 |nilS=>rw [h.nilS_inv];exact .ext _ _ (.slcNil 0 (Nat.zero_le _))
 |_=>exact h
theorem RepL.up {w:World} {im:Im}: ∀{vs:List PV} {us:List Value},RepL w im vs us→RepL w im (vs.map Qkz) us
 |_,_,.nil=> .nil
 |_,_,.cons _ _ _ _ h t=> .cons _ _ _ _ h.up t.up
theorem LRL.up {w:World} {im:Im} {ρ:Rho}: ∀{vs:List PV} {us:List Value},LRL w im ρ vs us→LRL w im ρ (vs.map Qkz) us
 |_,_,.nil=> .nil
 |_,_,.cons _ _ _ _ h t=> .cons _ _ _ _ h.up t.up
theorem Qdh.up {own:Nat→Prop} {w:World} {im:Im} {ρ:Rho} {B:Box} {x:Option Nat} (h:Qdh own w im ρ B x):Qdh own w im ρ {B with els:=B.els.map Zq3} x:=by
 cases x with
 |none=>obtain⟨h1,h2,h3,h4⟩:=h;exact⟨by simp [h1],h2,h3,h4⟩
 |some g=>
  obtain⟨h1,h2,h3,h4,⟨hmn,cur,us,rest,h5,h6,h7,h8,h9,h10,h11⟩|hm⟩:=h
  case inr=>
   refine⟨h1,by simpa using h2,h3,?_,.inr ⟨by simp [hm.1],hm.2⟩⟩;simp [hm.1]
  refine⟨h1,by simpa using h2,h3,?_,.inl ⟨hmn,cur,us,rest,h5,h6,?_,?_,h9,h10,h11⟩⟩
  ·intro e he;obtain⟨v,hv,rfl⟩:=List.mem_map.1 he;rw [Qmp,List.length_map];exact h4 v hv
  ·simp only [Qph];exact h7.up
  ·intro ha;simp only [Qph];exact(h8 ha).up
end Go.Vl

namespace Go.Proofs.YtdpajapkhembcaaGreatDoor
open Go.Vl Go.RowKit Go.Dg
theorem Qnp {xs:List Int} {i:Nat} (h:i<xs.length):xs.getD i 0=xs[i]:=by rw [List.getD_eq_getElem?_getD,List.getElem?_eq_getElem h];rfl
end Go.Proofs.YtdpajapkhembcaaGreatDoor

namespace Go.Dg
def Qs9:List Int→List Int
 | []=>[]
 |c::r=>match Qs9 r with
  | []=>if c=0 then []else [c]
  |d::t=>c::d::t
def ev:List Int→Int→Int
 | [],_=>0
 |c::r,u=>c+u*ev r u
theorem Q5o (F:Nat→Int) (N i:Nat):((List.range N).map F).getD i 0=if i<N then F i else 0:=by
 rw [List.getD_eq_getElem?_getD,List.getElem?_map];by_cases h:i<N
 ·simp [h]
 ·rw [List.getElem?_eq_none (by simpa using h),if_neg h];rfl
def zipA (p q:List Int):List Int:=(List.range (max p.length q.length)).map fun i=>p.getD i 0+q.getD i 0
def pAdd (p q:List Int):List Int:=Qs9 (zipA p q)
def Zp7 (p:List Int) (c:Int):List Int:=Qs9 (p.map (· *c))
def conv (p q:List Int):List Int:=(List.range (p.length+q.length-1)).map fun i=>sm (fun k=>p.getD k 0*q.getD (i-k) 0) (i+1)
def pMul (p q:List Int):List Int:=Qs9 (conv p q)
def pPow (p:List Int):Nat→List Int
 |0=>Qs9 [1]
 |n+1=>pMul (pPow p n) p
def bd (B:Nat) (p:List Int):Prop:= ∀x∈p,x.natAbs<2^B
theorem Zp8 {B:Nat} {p:List Int} (h:bd B p) (i:Nat):(p.getD i 0).natAbs<2^B:=Zfh h i
theorem Q5p {f:Nat→Int} {B m:Nat} (hm:m≤64) (h: ∀i,i<m→(f i).natAbs<2^B):(sm f m).natAbs<2^(B+7):=by
 have h1:=Zp6 m (fun i hi=>Nat.le_of_lt (h i hi));have h2:m*2^B≤64*2^B:=Nat.mul_le_mul_right _ hm;have hp:0<2^B:=Nat.pow_pos (by decide);rw [Nat.pow_add,show(2:Nat)^7=128 from rfl];omega
def Zyr (f:List Int) (n:Nat):List Int:=Zyq 2 n (trans f 1 n)
def Zys (f:List Int) (n:Nat):List Int:=(Zyr f.reverse n).reverse
end Go.Dg

namespace Go.Proofs.YtdpajapkhembcaaGreatDoor
open Go.Vl Go.RowKit Go.Dg
theorem Qme {n:Nat} (h:0<n) (hn:n<9223372036854775808):IntKind.i64.wrap ((n:Int)-1)=((n-1:Nat):Int):=by rw [Qag (by omega) (by omega)];omega
def Qbj (l:List Int):PV:= .slc (l.map (PV.int .i64))
theorem Qf0 (l:List Int) (i:Nat) (h:i<l.length):(l.map (PV.int .i64))[i]? =some (.int .i64 l[i]):=by rw [List.getElem?_map,List.getElem?_eq_getElem h];rfl
theorem map_take {α β:Type} (f:α→β) (l:List α) (i:Nat) (hi:i<l.length):(l.take (i+1)).map f=(l.take i).map f++[f l[i]]:=by rw [Qcp l i hi,List.map_append];rfl
end Go.Proofs.YtdpajapkhembcaaGreatDoor

namespace Go.Vl
open Go.RowKit
variable {P:Program} {tb:Tab} {nt:Nat} {ks:List Nat} {ops:Array Oper} {base i:Nat} {rest:List Oper} {accs:List Acc} {draw:Bool} {k:List It} {Q:Exit→St→Prop} {st:St}
theorem Qa4 {dst:Option Tmp} {f f':FuncId} {args args':List PV} {bxs bxsA:List (Nat×Box)} {es:List Eff} {θ ν:List (Nat×Nat)} {l:Acc} {r:PV} {bxs':List (Nat×Box)} (hs:Qct P f' args' bxsA r bxs') (hf:f'=f) (ha:args'=args) (hb:bxsA=bxs)
  (h:gland P tb nt ks (land θ ν bxs' r) (Qkl r bxs') es l ops base i dst rest accs draw k Q st):Zet P tb nt ks f args bxs es θ ν l ops base i dst rest accs draw k Q st:=by
 subst hf;subst ha;subst hb;exact Qck _ _ _ _ _ _ _ _ _ hs h
end Go.Vl

namespace Go.Vl
open Go.RowKit
mutual
def Vgo (P:Program) (nt:Nat):List It→(Exit→St→Prop)→St→Prop
 | [],Q,st=>Q .normal st
 | .blk _::k,Q,st=>Vgo P nt k Q st
 | .again J::_,_,st=>J st
 | .code c::k,Q,st=>Vwp P nt c (fun e s=>Vleave P nt k Q e s) st
def Vleave (P:Program) (nt:Nat):List It→(Exit→St→Prop)→Exit→St→Prop
 | [],Q,e,st=>Q e st
 | .blk j::k,Q,e,st=>match e with
  | .exit i=>if i=j then Vgo P nt k Q st else Vleave P nt k Q (.exit i) st
  | .normal=>Vgo P nt k Q st
  |e=>Vleave P nt k Q e st
 | .again J::k,Q,e,st=>match e with
  | .normal=>J st
  |e=>Vleave P nt k Q e st
 | .code c::k,Q,e,st=>match e with
  | .normal=>Vwp P nt c (fun e s=>Vleave P nt k Q e s) st
  |e=>Vleave P nt k Q e st
end
section
variable {P:Program} {tb:Tab} {nt:Nat} {ks:List Nat} {Q:Exit→St→Prop}
theorem Qmm (hm:P.follows .mixedOrders=true): ∀(k:List It),(∀st,go P tb nt ks k Q st→Vgo P nt k Q st)∧ ∀e st,gleave P tb nt ks k Q e st→Vleave P nt k Q e st
 | []=>⟨fun st h=>by simpa only [go,Vgo]using h,fun e st h=>by simpa only [gleave,Vleave]using h⟩
 | .blk j::k=>by
  obtain⟨h1,h2⟩:=Qmm hm k;refine⟨fun st h=> ?_,fun e st h=> ?_⟩
  ·simp only [go]at h;simp only [Vgo];exact h1 st h
  ·cases e with
   |exit i=>
    simp only [gleave]at h;simp only [Vleave];split at h
    ·rename_i e;rw [if_pos e];exact h1 st h
    ·rename_i e;rw [if_neg e];exact h2 _ st h
   |normal=>simp only [gleave]at h;simp only [Vleave];exact h1 st h
   |_=>simp only [gleave]at h;simp only [Vleave];exact h2 _ st h
 | .again J::k=>by
  obtain⟨h1,h2⟩:=Qmm hm k;refine⟨fun st h=>by simpa only [go,Vgo]using h,fun e st h=> ?_⟩;cases e with
  |normal=>simpa only [gleave,Vleave]using h
  |_=>simp only [gleave]at h;simp only [Vleave];exact h2 _ st h
 | .code c::k=>by
  obtain⟨h1,h2⟩:=Qmm hm k;have key: ∀st,vx P tb nt ks c (fun e s=>gleave P tb nt ks k Q e s) st→Vwp P nt c (fun e s=>Vleave P nt k Q e s) st:=fun st h=>Qdp (Qb2 hm c _ _ h) fun e s q=>h2 e s q;refine⟨fun st h=> ?_,fun e st h=> ?_⟩
  ·simp only [go]at h;simp only [Vgo];exact key st h
  ·cases e with
   |normal=>simp only [gleave]at h;simp only [Vleave];exact key st h
   |_=>simp only [gleave]at h;simp only [Vleave];exact h2 _ st h
theorem v_go (hm:P.follows .mixedOrders=true) {k:List It} {st:St} (h:go P tb nt ks k Q st):Vgo P nt k Q st:=(Qmm hm k).1 st h
def codes (L:List Code) (k:List It):List It:=L.foldr (fun c k=> .code c::k) k
theorem Zev {st1:St} {c:Code} {k:List It} (h2:Vgo P nt (.code c::k) Q st1): ∀(L:List Code),(∀st,Vgo P nt (codes L (.again (fun s=>Le s st1):: .code c::k)) Q st→Vgo P nt (codes L (.code c::k)) Q st)∧
  ∀e st,Vleave P nt (codes L (.again (fun s=>Le s st1):: .code c::k)) Q e st→Vleave P nt (codes L (.code c::k)) Q e st
 | []=>by
  have base: ∀st,Le st st1→Vgo P nt (.code c::k) Q st:=fun st h=>by
   simp only [Vgo]at h2 ⊢;exact Z18 h2 h
  refine⟨fun st h=>base st (by simpa only [codes,List.foldr,Vgo]using h),fun e st h=> ?_⟩;cases e with
  |normal=>
   have:=base st (by simpa only [codes,List.foldr,Vleave]using h);simp only [codes,List.foldr,Vleave];simpa only [Vgo]using this
  |_=>simpa only [codes,List.foldr,Vleave]using h
 |d::L=>by
  obtain⟨h3,h4⟩:=Zev h2 L;refine⟨fun st h=> ?_,fun e st h=> ?_⟩
  ·simp only [codes,List.foldr,Vgo]at h ⊢;exact Qdp h fun e s q=>h4 e s q
  ·cases e with
   |normal=>
    simp only [codes,List.foldr,Vleave]at h ⊢;exact Qdp h fun e s q=>h4 e s q
   |_=>simp only [codes,List.foldr,Vleave]at h ⊢;exact h4 _ _ h
theorem Z2w (hm:P.follows .mixedOrders=true) (tb:Tab) (ks:List Nat) {st st1:St} (L:List Code) {c:Code} {k:List It} (h1:go P tb nt ks (codes L (.again (fun s=>Le s st1):: .code c::k)) Q st) (h2:Vgo P nt (.code c::k) Q st1):
  Vgo P nt (codes L (.code c::k)) Q st:=(Zev h2 L).1 st (v_go hm h1)
def Qgi:Code→List Code
 | .seq a b=>a::Qgi b
 |c=>[c]
theorem Zew {k:List It}: ∀(c:Code),(∀st,Vgo P nt (codes (Qgi c) k) Q st→Vgo P nt (.code c::k) Q st)∧ ∀e st,Vleave P nt (codes (Qgi c) k) Q e st→Vleave P nt (.code c::k) Q e st
 | .seq a b=>by
  obtain⟨h1,h2⟩:=Zew (k:=k) b;have key: ∀st,Vwp P nt a (fun e s=>Vleave P nt (codes (Qgi b) k) Q e s) st→Vwp P nt (.seq a b) (fun e s=>Vleave P nt k Q e s) st:=fun st h=>Zd7 (Qdp h fun e s q=>by
   have q:=h2 e s q;cases e with
   |normal=>simpa only [Vleave,vthen]using q
   |_=>simpa only [Vleave,vthen]using q)
  refine⟨fun st h=> ?_,fun e st h=> ?_⟩
  ·simp only [Qgi,codes,List.foldr,Vgo]at h ⊢;exact key st h
  ·cases e with
   |normal=>simp only [Qgi,codes,List.foldr,Vleave]at h ⊢;exact key st h
   |_=>
    simp only [Qgi,codes,List.foldr,Vleave]at h ⊢;have:=h2 _ _ h;simpa only [Vleave]using this
 | .skip| .label _| .exit _| .ret| .region _ _ _| .cond _ _ _| .block _ _| .loop _| .rangeFunc _ _ _ _| .scope _| .goto _| .refuse _=>⟨fun _ h=>h,fun _ _ h=>h⟩
theorem Z2x {k:List It} {c:Code} {st:St} (h:Vgo P nt (codes (Qgi c) k) Q st):Vgo P nt (.code c::k) Q st:=(Zew c).1 st h
theorem Qvb (k:List It): ∀(A B:List Code),codes (A++B) k=codes A (codes B k)
 | [],_=>rfl
 |a::A,B=>by simp only [List.cons_append,codes,List.foldr];rw [←codes,Qvb k A B];rfl
theorem Qit (hm:P.follows .mixedOrders=true) (tb:Tab) (ks:List Nat) {C:List Code} (n:Nat) (hn:Nat.blt n C.length=true) {st:St} (st1:St)
  (h1:go P tb nt ks (codes (C.take n) (.again (fun s=>Le s st1)::codes (C.drop n) [])) Q st) (h2:Vgo P nt (codes (C.drop n) []) Q st1):Vgo P nt (codes C []) Q st:=by
 have hn:n<C.length:=by rw [Nat.blt_eq]at hn;exact hn
 have e:C.drop n=C[n]::C.drop (n+1):=List.drop_eq_getElem_cons hn;have e2:codes C []=codes (C.take n) (.code C[n]::codes (C.drop (n+1)) []):=by
  have:=Qvb [] (C.take n) (C.drop n);rw [List.take_append_drop]at this;rw [this,e];rfl
 rw [e2];have e3:codes (C.drop n) []= .code C[n]::codes (C.drop (n+1)) []:=by rw [e];rfl
 rw [e3]at h1 h2;exact Z2w hm tb ks _ h1 h2
theorem Zq1 {f:FuncId} {fn:Func} {c:Code} {args:List PV} {r:PV} (nt:Nat) (rs:List ResultVar) (hf:P.funcs[f]? =some fn) (hb:fn.body=some c)
  (hc:callable P f=true) (hnt:fn.ntmps=nt) (hrs:fn.results.toList=rs) (hn:Nat.ble args.length nt=true)
  (h:Vgo P nt (codes (Qgi c) []) (vret P rs (· =r)) (St.of (Qcj 0 args) [])):Qaf P f args r:=
 Q0f nt rs hf hb hc hnt hrs hn (by
  have h:=Z2x h;simp only [Vgo,Vleave]at h;exact h)
end
def Q4c (P:Program) (tb:Tab) (nt:Nat) (ks:List Nat) (c:Code) (k:List It) (Q:Exit→St→Prop):List Nat→St→Prop
 | [],_=>False
 |_::l,st=>go P tb nt ks (.code c:: .again (Q4c P tb nt ks c k Q l)::k) Q st
theorem Q4d (P:Program) (tb:Tab) (nt:Nat) (ks:List Nat) (c:Code) (k:List It) (Q:Exit→St→Prop) (i:Nat) (l:List Nat) (st:St):Q4c P tb nt ks c k Q (i::l) st=go P tb nt ks (.code c:: .again (Q4c P tb nt ks c k Q l)::k) Q st:=rfl
attribute [go_sem] Q4d
theorem Qcf {P:Program} {tb:Tab} {nt:Nat} {ks:List Nat} {k:List It} {Q:Exit→St→Prop} {st:St} (hm:P.follows .mixedOrders=true) {c:Code} (l:List Nat) (h:Q4c P tb nt ks c k Q l st):go P tb nt ks (.code (.loop c)::k) Q st:=by
 simp only [go,vx];refine Qsf (fun x:{x:List Nat×St // Q4c P tb nt ks c k Q x.1 x.2}=>x.1.2) (fun x=>x.1.1.length) ⟨(l,st),h⟩ (fun _ _ _ h=>h) ?_;rintro⟨⟨l,s⟩,h⟩;cases l with
 |nil=>exact h.elim
 |cons i l=>
  simp only [Q4c,go]at h;refine Qdp (Qb2 (tb:=tb) (ks:=ks) hm c _ _ h) ?_;intro e s q;cases e with
  |normal=>simp only [gleave]at q;exact⟨⟨(l,s),q⟩,by simp,fun _ _ _ h=>h⟩
  |_=>simpa only [gleave,vthen]using q
section
variable {P:Program} {b:Frame} {a:Act} {k:List Item} {cs:List Frame} {w:World}
theorem Qe1 {c:Code}:step P (lone (b.atR a (.code (.scope c)::k)) cs w)= .next (lone (b.atR a (.code c:: .inScope c::k)) cs w):=
 step_lone_go (by simp [stepG,stepG.exec,Frame.atR])
theorem Qso {c:Code}:step P (lone (b.atR a (.inScope c::k)) cs w)= .next (lone (b.atR a k) cs w):=
 step_lone_go (by simp [stepG,stepG.exec,Frame.atR])
end
theorem Zey {P:Program} {nt:Nat} {Q:Exit→St→Prop} {st:St} {c:Code} (h:Vwp P nt c (fun e s=>(∀l,e≠ .goto l)∧Q e s) st):Vwp P nt (.scope c) Q st:=fun C h1 h2 rd a w hr=>by
 subst h1;subst h2;intro b k cs hro hb hroom;obtain⟨e,a₁,w₁,⟨s,hq,hr1⟩,harr⟩:=h C rfl rfl rd a w hr b (.inScope c::k) cs hro hb hroom;cases e with
 |normal=>exact⟨_,a₁,w₁,⟨s,hq.2,hr1⟩,.of_steps (.one (fenced_calm hb hroom rfl) Qe1) (StepsIn.trans harr (.one (fenced_calm hb hroom rfl) Qso))⟩
 |exit id=>exact⟨_,a₁,w₁,⟨s,hq.2,hr1⟩,.of_steps (.one (fenced_calm hb hroom rfl) Qe1) ⟨fun k' hk=>harr.1 k' (by simp [exitTo,hk]),fun hr hk=>harr.2 hr (by simp [exitTo,hk])⟩⟩
 |goto l=>exact(hq.1 l rfl).elim
 |ret=>exact⟨_,a₁,w₁,⟨s,hq.2,hr1⟩,.of_steps (.one (fenced_calm hb hroom rfl) Qe1) harr⟩
 |panic ch=>exact⟨_,a₁,w₁,⟨s,hq.2,hr1⟩,.of_steps (.one (fenced_calm hb hroom rfl) Qe1) harr⟩
 |outgrown=>exact⟨_,a₁,w₁,⟨s,hq.2,hr1⟩,.of_steps (.one (fenced_calm hb hroom rfl) Qe1) harr⟩
def Qlq (P:Program) (tb:Tab) (nt:Nat) (ks:List Nat) (k:List It) (Q:Exit→St→Prop) (e:Exit) (s:St):Prop:=(∀l,e≠ .goto l)∧gleave P tb nt ks k Q e s
section
variable (P:Program) (tb:Tab) (nt:Nat) (ks:List Nat) (k:List It) (Q:Exit→St→Prop) (s:St)
theorem Qsp:Qlq P tb nt ks k Q .normal s=go P tb nt ks k Q s:=by
 unfold Qlq;rw [Qc1];exact propext ⟨fun h=>h.2,fun h=>⟨fun l=>by simp,h⟩⟩
theorem Qx8 (i:Nat):Qlq P tb nt ks k Q (.exit i) s=gleave P tb nt ks k Q (.exit i) s:=by
 unfold Qlq;exact propext ⟨fun h=>h.2,fun h=>⟨fun l=>by simp,h⟩⟩
theorem Q4g:Qlq P tb nt ks k Q .ret s=gleave P tb nt ks k Q .ret s:=by
 unfold Qlq;exact propext ⟨fun h=>h.2,fun h=>⟨fun l=>by simp,h⟩⟩
end
attribute [go_sem] Qsp Qx8 Q4g List.append_eq
theorem Zxw {P:Program} {tb:Tab} {nt:Nat} {ks:List Nat} {k:List It} {Q:Exit→St→Prop} {st:St} (hm:P.follows .mixedOrders=true) {c:Code} (h:go P tb nt ks [.code c] (Qlq P tb nt ks k Q) st):go P tb nt ks (.code (.scope c)::k) Q st:=by
 simp only [go,vx]at h ⊢;refine Zey (Qdp (Qb2 (tb:=tb) (ks:=ks) hm c _ _ h) ?_);intro e s q;have q:gleave P tb nt ks [] (Qlq P tb nt ks k Q) e s:=q;simp only [gleave]at q;exact q
end Go.Vl

namespace Go.Dg
structure Wd where
 lx:Int
 ly:Int
 lz:Int
 hx:Int
 hy:Int
 hz:Int
 f:Int
 t:Int
 ux:Int
 uy:Int
 uz:Int
deriving DecidableEq
def wd0:Wd:=⟨0,0,0,0,0,0,0,0,0,0,0⟩
def ptW (x y z:Int):Bool:=decide ((-1048576≤x∧x≤1048576)∧(-1048576≤y∧y≤1048576)∧(-1048576≤z∧z≤1048576))
def uB (x:Int):Bool:=decide (-5000≤x∧x≤5000)
def vWd (w:Wd):Bool:=ptW w.lx w.ly w.lz&&(ptW w.hx w.hy w.hz&&(decide (0≤w.f∧w.f<w.t∧w.t≤3600000)&&(decide (w.lx≤w.hx∧w.ly≤w.hy∧w.lz≤w.hz)&&(uB w.ux&&(uB w.uy&&uB w.uz)))))
def Qba (l:List Wd):Bool:=l.all vWd&&decide (l.length≤8)
def blW (x y z t:Int) (w:Wd):Bool:=decide ((w.lx≤x∧x≤w.hx)∧(w.ly≤y∧y≤w.hy)∧(w.lz≤z∧z≤w.hz)∧w.f≤t∧t<w.t)
theorem Qfi {w:Wd} (h:vWd w=true):(-1048576≤w.lx∧w.lx≤1048576)∧(-1048576≤w.ly∧w.ly≤1048576)∧(-1048576≤w.lz∧w.lz≤1048576)∧(-1048576≤w.hx∧w.hx≤1048576)∧(-1048576≤w.hy∧w.hy≤1048576)∧(-1048576≤w.hz∧w.hz≤1048576)∧
  0≤w.f∧w.f<w.t∧w.t≤3600000∧w.lx≤w.hx∧w.ly≤w.hy∧w.lz≤w.hz∧(-5000≤w.ux∧w.ux≤5000)∧(-5000≤w.uy∧w.uy≤5000)∧(-5000≤w.uz∧w.uz≤5000):=by
 simp only [vWd,ptW,uB,Bool.and_eq_true,decide_eq_true_eq]at h;omega
theorem Qbo {l:List Wd} (h:Qba l=true):(∀w∈l,vWd w=true)∧l.length≤8:=by
 simp only [Qba,Bool.and_eq_true,decide_eq_true_eq,List.all_eq_true]at h;exact h
def Qtc (p:Wd→Bool):List Wd→Nat→Nat→Nat
 | [],_,m=>m
 |w::l,i,m=>Qtc p l (i+1) (if p w then m+2^i else m)
def mask (p:Wd→Bool) (l:List Wd):Nat:=Qtc p l 0 0
theorem Qk3 (p:Wd→Bool): ∀(a b:List Wd) (i m:Nat),Qtc p (a++b) i m=Qtc p b (i+a.length) (Qtc p a i m)
 | [],_,_,_=>rfl
 |w::a,b,i,m=>by
  simp only [List.cons_append,Qtc,List.length_cons];rw [Qk3 p a b,Nat.add_assoc,Nat.add_comm 1]
theorem Qtd (p:Wd→Bool) (a:List Wd) (w:Wd):mask p (a++[w])=if p w then mask p a+2^a.length else mask p a:=by
 unfold mask;rw [Qk3,Nat.zero_add];rfl
theorem Qys (p:Wd→Bool): ∀(a:List Wd) (i m:Nat),m<2^i→Qtc p a i m<2^(i+a.length)
 | [],_,_,h=>h
 |w::a,i,m,h=>by
  have h1:2^(i+1)=2^i+2^i:=by rw [Nat.pow_succ];omega
  have:=Qys p a (i+1) (if p w then m+2^i else m) (by split<;>omega);simp only [Qtc,List.length_cons];rw [show i+(a.length+1)=i+1+a.length from by omega];exact this
theorem Qvv (p:Wd→Bool) (a:List Wd):mask p a<2^a.length:=by
 have:=Qys p a 0 0 (by decide)
 rwa [Nat.zero_add]at this
theorem Zyz {m k:Nat} (h:m<2^k):m ||| 2^k=m+2^k:=by
 have:=Nat.two_pow_add_eq_or_of_lt h 1;rw [Nat.mul_one,Nat.add_comm,Nat.or_comm]at this;exact this.symm
def Qb4 (m:Nat):List Nat:=(List.range 8).filter fun i=>m.testBit i
def loB (m:Nat):Nat:=(Qb4 m).headD 0
theorem Q00: ∀m,m<256→m≠0→Qb4 m=loB m::Qb4 (m &&& (m-1))∧(m &&& (m-1))<256∧loB m<8:=by decide+kernel
theorem Qkd:Qb4 0=[]:=by decide+kernel
theorem Zfl: ∀m,m<256→Qb4 m=[]→m=0:=by decide+kernel
def Qh4:Nat→Nat→Nat
 |0,m=>m
 |k+1,m=>Qh4 k (m &&& (m-1))
theorem Qke: ∀(k m:Nat),m<256→k≤(Qb4 m).length→Qb4 (Qh4 k m)=(Qb4 m).drop k∧Qh4 k m<256
 |0,m,h,_=>⟨rfl,h⟩
 |k+1,m,h,hk=>by
  have h0:m≠0:=by rintro rfl;rw [Qkd]at hk;simp at hk
  obtain⟨e,h1, -⟩:=Q00 m h h0;rw [e]at hk ⊢;simp only [List.length_cons]at hk;obtain⟨i1,i2⟩:=Qke k (m &&& (m-1)) h1 (by omega);exact⟨by simp only [Qh4,List.drop_succ_cons];exact i1,i2⟩
theorem Qpq: ∀(k m:Nat),Qh4 (k+1) m=Qh4 k m &&& (Qh4 k m-1)
 |0,_=>rfl
 |k+1,m=>by
  show Qh4 (k+1) (m &&& (m-1))=_;rw [Qpq k];rfl
theorem Q57 {k m:Nat} (h:m<256) (hk:k<(Qb4 m).length):Qh4 k m≠0∧loB (Qh4 k m)=(Qb4 m).getD k 0∧Qh4 k m<256:=by
 obtain⟨e1,e2⟩:=Qke k m h (by omega);refine⟨?_,?_,e2⟩
 ·intro e0;rw [e0,Qkd]at e1;have:=congrArg List.length e1;simp at this;omega
 ·unfold loB;rw [e1,List.headD_eq_head?_getD,List.head?_drop,List.getD_eq_getElem?_getD]
theorem Q58 {m:Nat} (h:m<256):Qh4 (Qb4 m).length m=0:=by
 obtain⟨e1,e2⟩:=Qke _ m h (Nat.le_refl _);exact Zfl _ e2 (by rw [e1,List.drop_length])
def onI (p:Wd→Bool):List Wd→Nat→List Nat
 | [],_=>[]
 |w::l,i=>if p w then i::onI p l (i+1)else onI p l (i+1)
theorem Qpr (p:Wd→Bool): ∀(a b:List Wd) (i:Nat),onI p (a++b) i=onI p a i++onI p b (i+a.length)
 | [],_,_=>rfl
 |w::a,b,i=>by
  simp only [List.cons_append,onI,List.length_cons];rw [Qpr p a b,show i+1+a.length=i+(a.length+1)from by omega];split<;>simp
theorem Zfm (p:Wd→Bool) (a:List Wd) (w:Wd):onI p (a++[w]) 0=if p w then onI p a 0++[a.length]else onI p a 0:=by
 rw [Qpr,Nat.zero_add];simp only [onI];split<;>simp
theorem Q59 (p:Wd→Bool): ∀(a:List Wd) (i k:Nat),k∈onI p a i→i≤k∧k<i+a.length
 | [],_,_,h=>nomatch h
 |w::a,i,k,h=>by
  simp only [onI]at h;simp only [List.length_cons];split at h
  ·simp only [List.mem_cons]at h;rcases h with rfl|h
   ·omega
   ·have:=Q59 p a (i+1) k h;omega
  ·have:=Q59 p a (i+1) k h;omega
theorem Zfn: ∀m,m<256→ ∀k,k<8→m<2^k→Qb4 (m+2^k)=Qb4 m++[k]:=by decide+kernel
theorem bits_mask (p:Wd→Bool) (l:List Wd) (h:l.length≤8):Qb4 (mask p l)=onI p l 0:=by
 have key: ∀k,k≤l.length→Qb4 (mask p (l.take k))=onI p (l.take k) 0:=by
  intro k
  induction k with
  |zero=>intro _;rw [List.take_zero];exact Qkd
  |succ k ih=>
   intro hk;have ih:=ih (by omega);have hk':k<l.length:=by omega
   have e:l.take (k+1)=l.take k++[l[k]]:=by rw [List.take_add_one,List.getElem?_eq_getElem hk'];rfl
   have hlt:=Qvv p (l.take k);have hl:(l.take k).length=k:=by simp;omega
   rw [hl]at hlt;rw [e,Qtd,Zfm,hl];have h256:(2:Nat)^k≤2^7:=Nat.pow_le_pow_right (by decide) (by omega);split
   ·rw [Zfn _ (by omega) k (by omega) hlt,ih]
   ·exact ih
 have:=key l.length (Nat.le_refl _)
 rwa [List.take_length]at this
theorem Zfo (p:Wd→Bool) {l:List Wd} (h:l.length≤8):mask p l<256:=by
 have h1:=Qvv p l;have h256:(2:Nat)^l.length≤2^8:=Nat.pow_le_pow_right (by decide) h;omega
def smW (g:Wd→Int):List Wd→Int
 | []=>0
 |w::l=>g w+smW g l
theorem Qps (g:Wd→Int): ∀a b:List Wd,smW g (a++b)=smW g a+smW g b
 | [],b=>by simp [smW]
 |w::a,b=>by simp only [List.cons_append,smW];rw [Qps g a b,Int.add_assoc]
def pick (l:List Wd) (ix:List Nat):List Wd:=ix.map fun i=>l.getD i wd0
theorem Zr3 (p:Wd→Bool) (l:List Wd):pick l (onI p l 0)=l.filter p:=by
 have key: ∀(b a:List Wd),l=a++b→pick l (onI p b a.length)=b.filter p:=by
  intro b
  induction b with
  |nil=>intro a _;rfl
  |cons w b ih=>
   intro a e;have:=ih (a++[w]) (by rw [e,List.append_assoc];rfl);rw [List.length_append]at this;simp only [onI,List.filter_cons];have hw:l.getD a.length wd0=w:=by rw [e,List.getD_eq_getElem?_getD,List.getElem?_append_right (Nat.le_refl _)];simp
   split
   ·unfold pick at this ⊢;rw [List.map_cons,hw];exact congrArg _ this
   ·exact this
 exact key l [] rfl
theorem Q6a (g:Wd→Int) (K:Int): ∀l:List Wd,(∀w∈l, -K≤g w∧g w≤K)→ -(K*l.length)≤smW g l∧smW g l≤K*l.length
 | [],_=>by simp [smW]
 |w::l,h=>by
  have h1:=h w (by simp);have h2:=Q6a g K l fun x hx=>h x (by simp [hx]);simp only [smW,List.length_cons,Int.natCast_add,Int.mul_add];generalize K*(l.length:Int)=q at*;omega
theorem Zfp {l:List Wd} {ix:List Nat} (h: ∀i∈ix,i<l.length) {w:Wd} (hw:w∈pick l ix):w∈l:=by
 obtain⟨i,hi,rfl⟩:=List.mem_map.1 hw;rw [List.getD_eq_getElem?_getD,List.getElem?_eq_getElem (h i hi)];exact List.getElem_mem _
def atW (g:Wd→Int) (l:List Wd) (x y z t:Int):Int:=smW g (l.filter (blW x y z t))
theorem Qgj {g:Wd→Int} (hg:g=Wd.ux∨g=Wd.uy∨g=Wd.uz) {l:List Wd} (hv:Qba l=true) (x y z t:Int): -40000≤atW g l x y z t∧atW g l x y z t≤40000:=by
 obtain⟨h1,h2⟩:=Qbo hv;have h3:=Q6a g 5000 (l.filter (blW x y z t)) fun w hw=>by
  have:=Qfi (h1 w (List.mem_filter.1 hw).1);rcases hg with rfl|rfl|rfl<;>omega
 have h4:=List.length_filter_le (blW x y z t) l;unfold atW;omega
end Go.Dg

namespace Go.Proofs.YtdpajapkhembcaaGreatDoor
open Go.Vl Go.RowKit Go.Dg
def wdPV (w:Wd):PV:= .agg [.int .i64 w.lx,.int .i64 w.ly,.int .i64 w.lz,.int .i64 w.hx,.int .i64 w.hy,.int .i64 w.hz,.int .i64 w.f,.int .i64 w.t,.int .i64 w.ux,.int .i64 w.uy,.int .i64 w.uz]
attribute [go_sem] wdPV
abbrev wsPV (l:List Wd):PV:= .slc (l.map wdPV)
theorem wo_1:IntKind.i64.wrap 1=1:=rfl
theorem wr_2:IntKind.i64.wrap 2=2:=rfl
theorem wr_3:IntKind.i64.wrap 3=3:=rfl
theorem wr_4:IntKind.i64.wrap 4=4:=rfl
theorem nc_2:((2:Nat):Int)=2:=rfl
theorem nc_3:((3:Nat):Int)=3:=rfl
theorem nc_4:((4:Nat):Int)=4:=rfl
attribute [go_sem] wo_1 wr_2 wr_3 wr_4 nc_2 nc_3 nc_4
theorem Qk5 (l:List Wd) (i:Nat) (h:i<l.length):(l.map wdPV)[i]? =some (wdPV l[i]):=by rw [List.getElem?_map,List.getElem?_eq_getElem h];rfl
theorem Qtp {x y z:Int} (h:ptW x y z=false): ¬((-1048576≤x∧x≤1048576)∧(-1048576≤y∧y≤1048576)∧(-1048576≤z∧z≤1048576)):=of_decide_eq_false h
theorem Qy2 {x y z:Int} (h:ptW x y z=true):(-1048576≤x∧x≤1048576)∧(-1048576≤y∧y≤1048576)∧(-1048576≤z∧z≤1048576):=of_decide_eq_true h
abbrev WdOk (w:Wd):Prop:=(-1048576≤w.lx∧w.lx≤1048576)∧(-1048576≤w.ly∧w.ly≤1048576)∧(-1048576≤w.lz∧w.lz≤1048576)∧(-1048576≤w.hx∧w.hx≤1048576)∧(-1048576≤w.hy∧w.hy≤1048576)∧(-1048576≤w.hz∧w.hz≤1048576)∧
  0≤w.f∧w.f<w.t∧w.t≤3600000∧w.lx≤w.hx∧w.ly≤w.hy∧w.lz≤w.hz∧(-5000≤w.ux∧w.ux≤5000)∧(-5000≤w.uy∧w.uy≤5000)∧(-5000≤w.uz∧w.uz≤5000)
theorem Zss {w:Wd} (h:WdOk w):vWd w=true:=by
 unfold WdOk at h;simp only [vWd,ptW,uB,Bool.and_eq_true,decide_eq_true_eq];omega
theorem Q05 {l:List Wd} {i:Nat} {h:i<l.length} (e: ¬WdOk l[i]):Qba l=false:=by
 cases e2:Qba l with
 |false=>rfl
 |true=>exact(e (Qfi ((Qbo e2).1 _ (List.getElem_mem h)))).elim
theorem Zst {l:List Wd} {i:Nat} (h:i<l.length) (h1:(l.take i).all vWd=true) (h2:vWd l[i]=true):(l.take (i+1)).all vWd=true:=by
 rw [Qcp l i h,List.all_append,h1];simp [h2]
set_option maxRecDepth 100000 in
theorem Zzq (m:Int) (x y z:Int) (hm:0≤m) (hm2:m≤1000000000):Qaf Tryz.prog 52 [.int .i64 m,.slc [.int .i64 x,.int .i64 y,.int .i64 z]] (.bool (decide ((-m≤x∧x≤m)∧(-m≤y∧y≤m)∧(-m≤z∧z≤m)))):=by
 have wm:IntKind.i64.wrap (0-m)= -m:=by rw [Qag (by omega) (by omega)];omega
 by_cases c0:x< -m
 ·have c0':=eq_true c0;have e:decide ((-m≤x∧x≤m)∧(-m≤y∧y≤m)∧(-m≤z∧z≤m))=false:=decide_eq_false (by omega);refine Qab (tb:=[]) 23 [.tmp 4] [0,1,4,6,7,8,9,10,21] mixed Tryz.func52 rfl (by kernel_rfl) ?_;repeat simp -implicitDefEqProofs only [go_sem,seval]
  refine Qcf mixed [0,1,2,3] ?_;repeat simp -implicitDefEqProofs only [go_sem,seval,wm,e,Bool.not_true,c0']
 have c0':=eq_false c0;by_cases c1:m<x
 ·have c1':=eq_true c1;have e:decide ((-m≤x∧x≤m)∧(-m≤y∧y≤m)∧(-m≤z∧z≤m))=false:=decide_eq_false (by omega);refine Qab (tb:=[]) 23 [.tmp 4] [0,1,4,6,7,8,9,10,21] mixed Tryz.func52 rfl (by kernel_rfl) ?_;repeat simp -implicitDefEqProofs only [go_sem,seval]
  refine Qcf mixed [0,1,2,3] ?_;repeat simp -implicitDefEqProofs only [go_sem,seval,wm,e,c0',c1']
 have c1':=eq_false c1;by_cases c2:y< -m
 ·have c2':=eq_true c2;have e:decide ((-m≤x∧x≤m)∧(-m≤y∧y≤m)∧(-m≤z∧z≤m))=false:=decide_eq_false (by omega);refine Qab (tb:=[]) 23 [.tmp 4] [0,1,4,6,7,8,9,10,21] mixed Tryz.func52 rfl (by kernel_rfl) ?_;repeat simp -implicitDefEqProofs only [go_sem,seval]
  refine Qcf mixed [0,1,2,3] ?_;repeat simp -implicitDefEqProofs only [go_sem,seval,wm,e,Bool.not_true,c0',c1',c2']
 have c2':=eq_false c2;by_cases c3:m<y
 ·have c3':=eq_true c3;have e:decide ((-m≤x∧x≤m)∧(-m≤y∧y≤m)∧(-m≤z∧z≤m))=false:=decide_eq_false (by omega);refine Qab (tb:=[]) 23 [.tmp 4] [0,1,4,6,7,8,9,10,21] mixed Tryz.func52 rfl (by kernel_rfl) ?_;repeat simp -implicitDefEqProofs only [go_sem,seval]
  refine Qcf mixed [0,1,2,3] ?_;repeat simp -implicitDefEqProofs only [go_sem,seval,wm,e,c0',c1',c2',c3']
 have c3':=eq_false c3;by_cases c4:z< -m
 ·have c4':=eq_true c4;have e:decide ((-m≤x∧x≤m)∧(-m≤y∧y≤m)∧(-m≤z∧z≤m))=false:=decide_eq_false (by omega);refine Qab (tb:=[]) 23 [.tmp 4] [0,1,4,6,7,8,9,10,21] mixed Tryz.func52 rfl (by kernel_rfl) ?_;repeat simp -implicitDefEqProofs only [go_sem,seval]
  refine Qcf mixed [0,1,2,3] ?_;repeat simp -implicitDefEqProofs only [go_sem,seval,wm,e,Bool.not_true,c0',c1',c2',c3',c4']
 have c4':=eq_false c4;by_cases c5:m<z
 ·have c5':=eq_true c5;have e:decide ((-m≤x∧x≤m)∧(-m≤y∧y≤m)∧(-m≤z∧z≤m))=false:=decide_eq_false (by omega);refine Qab (tb:=[]) 23 [.tmp 4] [0,1,4,6,7,8,9,10,21] mixed Tryz.func52 rfl (by kernel_rfl) ?_;repeat simp -implicitDefEqProofs only [go_sem,seval]
  refine Qcf mixed [0,1,2,3] ?_;repeat simp -implicitDefEqProofs only [go_sem,seval,wm,e,c0',c1',c2',c3',c4',c5']
 have c5':=eq_false c5;have e:decide ((-m≤x∧x≤m)∧(-m≤y∧y≤m)∧(-m≤z∧z≤m))=true:=decide_eq_true (by omega);refine Qab (tb:=[]) 23 [.tmp 4] [0,1,4,6,7,8,9,10,21] mixed Tryz.func52 rfl (by kernel_rfl) ?_;repeat simp -implicitDefEqProofs only [go_sem,seval]
 refine Qcf mixed [0,1,2,3] ?_;repeat simp -implicitDefEqProofs only [go_sem,seval,wm,e,c0',c1',c2',c3',c4',c5']
theorem Qy3 (x y z:Int):Qaf Tryz.prog 38 [.agg [.int .i64 x,.int .i64 y,.int .i64 z]] (.bool (ptW x y z)):=by
 have h:=Zzq 1048576 x y z (by decide) (by decide);have e:decide ((-1048576≤x∧x≤1048576)∧(-1048576≤y∧y≤1048576)∧(-1048576≤z∧z≤1048576))=ptW x y z:=rfl;rw [e]at h;generalize ptW x y z=b at*;refine Qab (tb:=[]) 11 [.tmp 2] [0,1,2] mixed Tryz.func38 rfl (by kernel_rfl) ?_;repeat (first|simp -implicitDefEqProofs only [go_sem,seval]|(with_reducible refine Qaa h ?_ ?_ ?_);rfl;rfl)
theorem Qgv (x y z:Int):Qaf Tryz.prog 39 [.agg [.int .i64 x,.int .i64 y,.int .i64 z]] (.agg [.int .i64 x,.int .i64 y,.int .i64 z]):=by
 refine Qab (tb:=[]) 10 [.cell 2 88] [0,1,2] mixed Tryz.func39 rfl (by kernel_rfl) ?_;repeat simp -implicitDefEqProofs only [go_sem,seval]
set_option maxHeartbeats 8000000 in
set_option maxRecDepth 100000 in
theorem Qgw (l:List Wd) (hl:l.length≤maxLen):Qaf Tryz.prog 20 [wsPV l] (.bool (Qba l)):=by
 have hm:=Qnb;refine Qab (tb:=[]) 75 [.tmp 2] [0,2,4,5,6,7,8,9,10,11,12,41,50,51,52,69] mixed Tryz.func20 rfl (by kernel_rfl) ?_;repeat simp -implicitDefEqProofs only [go_sem,seval]
 refine Qau mixed (fun i:{i:Nat // i≤l.length∧(l.take i).all vWd=true}=>St.of [(0,wsPV l),(9,wsPV l),(10,.int .i64 (l.length:Int)),(11,.int .i64 (i.1:Int))] []) (fun i=>l.length-i.1) ⟨0,Nat.zero_le _,rfl⟩ ?_ ?_
 ·refine Qax ?_;simp [Qae,lkp,ren1,ren0,Qai,wsPV]
 rintro⟨i,hi,hall⟩;simp only;by_cases hA:i<l.length
 case neg=>
  have hA':=ltF hA;have et:l.take i=l:=List.take_of_length_le (by omega);rw [et]at hall;by_cases h8:l.length≤8
  ·have h8':((l.length:Int)≤8)=True:=eq_true (by omega);have e:Qba l=true:=by simp [Qba,hall,h8]
   repeat simp -implicitDefEqProofs only [go_sem,seval,hA',h8',e,List.length_map,decide_true,decide_false]
  ·have h8':((l.length:Int)≤8)=False:=eq_false (by omega);have e:Qba l=false:=by simp [Qba,h8]
   repeat simp -implicitDefEqProofs only [go_sem,seval,hA',h8',e,List.length_map,decide_true,decide_false]
 have hA':=ltT hA;have n0:=nnT i;have hg:=Qk5 l i hA;have hwk:=Qak (a:=i) (by omega);have hbad:=fun h=>Q05 (h:=hA) h;have hok:=Zst hA hall;generalize l[i]=w at*;have h0:=Qy3 w.lx w.ly w.lz;have h1:=Qy3 w.hx w.hy w.hz;have q0:=Qgv w.lx w.ly w.lz;have q1:=Qgv w.hx w.hy w.hz;have q2:=Qgv w.ux w.uy w.uz;cases c0:ptW w.lx w.ly w.lz with
 |false=>
  rw [c0]at h0;have c0:=Qtp c0;have e:Qba l=false:=hbad (by unfold WdOk;omega);repeat (first|simp -implicitDefEqProofs only [go_sem,seval,hA',n0,hg,e,Int.toNat_natCast,Bool.not_true,Bool.not_false,decide_true]|(with_reducible refine Qaa h0 ?_ ?_ ?_);rfl;rfl)
 |true=>
 rw [c0]at h0;have c0:=Qy2 c0;cases c1:ptW w.hx w.hy w.hz with
 |false=>
  rw [c1]at h1;have c1:=Qtp c1;have e:Qba l=false:=hbad (by unfold WdOk;omega);repeat (first|simp -implicitDefEqProofs only [go_sem,seval,hA',n0,hg,e,Int.toNat_natCast,Bool.not_true,Bool.not_false,decide_true]|(with_reducible refine Qaa h0 ?_ ?_ ?_);rfl;rfl|(with_reducible refine Qaa h1 ?_ ?_ ?_);rfl;rfl)
 |true=>
 rw [c1]at h1;have c1:=Qy2 c1;by_cases c2:w.f<0
 ·have c2':=eq_true c2;have e:Qba l=false:=hbad (by unfold WdOk;omega);repeat (first|simp -implicitDefEqProofs only [go_sem,seval,hA',n0,hg,e,Int.toNat_natCast,Bool.not_true,decide_true,c2']|(with_reducible refine Qaa h0 ?_ ?_ ?_);rfl;rfl|(with_reducible refine Qaa h1 ?_ ?_ ?_);rfl;rfl)
 have c2':=eq_false c2;by_cases c3:w.t≤w.f
 ·have c3':=eq_true c3;have e:Qba l=false:=hbad (by unfold WdOk;omega);repeat (first|simp -implicitDefEqProofs only [go_sem,seval,hA',n0,hg,e,Int.toNat_natCast,Bool.not_true,decide_true,decide_false,c2',c3']|(with_reducible refine Qaa h0 ?_ ?_ ?_);rfl;rfl|(with_reducible refine Qaa h1 ?_ ?_ ?_);rfl;rfl)
 have c3':=eq_false c3;by_cases c4:3600000<w.t
 ·have c4':=eq_true c4;have e:Qba l=false:=hbad (by unfold WdOk;omega);repeat (first|simp -implicitDefEqProofs only [go_sem,seval,hA',n0,hg,e,Int.toNat_natCast,Bool.not_true,decide_true,decide_false,c2',c3',c4']|(with_reducible refine Qaa h0 ?_ ?_ ?_);rfl;rfl|(with_reducible refine Qaa h1 ?_ ?_ ?_);rfl;rfl)
 have c4':=eq_false c4;repeat (first|simp -implicitDefEqProofs only [go_sem,seval,hA',n0,hg,Int.toNat_natCast,Bool.not_true,decide_true,decide_false,c2',c3',c4']|(with_reducible refine Qaa h0 ?_ ?_ ?_);rfl;rfl|(with_reducible refine Qaa h1 ?_ ?_ ?_);rfl;rfl|(with_reducible refine Qaa q0 ?_ ?_ ?_);rfl;rfl|(with_reducible refine Qaa q1 ?_ ?_ ?_);rfl;rfl|(with_reducible refine Qaa q2 ?_ ?_ ?_);rfl;rfl|(with_reducible refine And.intro (Qac _ _ (by kernel_rfl)) ?_))
 refine Qcf mixed [0,1,2,3] ?_;by_cases c5:w.hx<w.lx
 ·have c5':=eq_true c5;have e:Qba l=false:=hbad (by unfold WdOk;omega);repeat (first|simp -implicitDefEqProofs only [go_sem,seval,e,Bool.not_true,decide_true,c5']|(with_reducible exact Qac _ _ (by kernel_rfl)))
 have c5':=eq_false c5;by_cases c6:w.ux< -5000
 ·have c6':=eq_true c6;have e:Qba l=false:=hbad (by unfold WdOk;omega);repeat (first|simp -implicitDefEqProofs only [go_sem,seval,e,Bool.not_true,decide_true,decide_false,c5',c6']|(with_reducible exact Qac _ _ (by kernel_rfl)))
 have c6':=eq_false c6;by_cases c7:5000<w.ux
 ·have c7':=eq_true c7;have e:Qba l=false:=hbad (by unfold WdOk;omega);repeat (first|simp -implicitDefEqProofs only [go_sem,seval,e,decide_true,decide_false,c5',c6',c7']|(with_reducible exact Qac _ _ (by kernel_rfl)))
 have c7':=eq_false c7;by_cases c8:w.hy<w.ly
 ·have c8':=eq_true c8;have e:Qba l=false:=hbad (by unfold WdOk;omega);repeat (first|simp -implicitDefEqProofs only [go_sem,seval,e,Bool.not_true,decide_true,decide_false,c5',c6',c7',c8']|(with_reducible exact Qac _ _ (by kernel_rfl))|(with_reducible refine And.intro (Qac _ _ (by kernel_rfl)) ?_))
 have c8':=eq_false c8;by_cases c9:w.uy< -5000
 ·have c9':=eq_true c9;have e:Qba l=false:=hbad (by unfold WdOk;omega);repeat (first|simp -implicitDefEqProofs only [go_sem,seval,e,Bool.not_true,decide_true,decide_false,c5',c6',c7',c8',c9']|(with_reducible exact Qac _ _ (by kernel_rfl))|(with_reducible refine And.intro (Qac _ _ (by kernel_rfl)) ?_))
 have c9':=eq_false c9;by_cases c10:5000<w.uy
 ·have c10':=eq_true c10;have e:Qba l=false:=hbad (by unfold WdOk;omega);repeat (first|simp -implicitDefEqProofs only [go_sem,seval,e,decide_true,decide_false,c5',c6',c7',c8',c9',c10']|(with_reducible exact Qac _ _ (by kernel_rfl))|(with_reducible refine And.intro (Qac _ _ (by kernel_rfl)) ?_))
 have c10':=eq_false c10;by_cases c11:w.hz<w.lz
 ·have c11':=eq_true c11;have e:Qba l=false:=hbad (by unfold WdOk;omega);repeat (first|simp -implicitDefEqProofs only [go_sem,seval,e,Bool.not_true,decide_true,decide_false,c5',c6',c7',c8',c9',c10',c11']|(with_reducible exact Qac _ _ (by kernel_rfl))|(with_reducible refine And.intro (Qac _ _ (by kernel_rfl)) ?_))
 have c11':=eq_false c11;by_cases c12:w.uz< -5000
 ·have c12':=eq_true c12;have e:Qba l=false:=hbad (by unfold WdOk;omega);repeat (first|simp -implicitDefEqProofs only [go_sem,seval,e,Bool.not_true,decide_true,decide_false,c5',c6',c7',c8',c9',c10',c11',c12']|(with_reducible exact Qac _ _ (by kernel_rfl))|(with_reducible refine And.intro (Qac _ _ (by kernel_rfl)) ?_))
 have c12':=eq_false c12;by_cases c13:5000<w.uz
 ·have c13':=eq_true c13;have e:Qba l=false:=hbad (by unfold WdOk;omega);repeat (first|simp -implicitDefEqProofs only [go_sem,seval,e,decide_true,decide_false,c5',c6',c7',c8',c9',c10',c11',c12',c13']|(with_reducible exact Qac _ _ (by kernel_rfl))|(with_reducible refine And.intro (Qac _ _ (by kernel_rfl)) ?_))
 have c13':=eq_false c13;have e:=hok (Zss (by unfold WdOk;omega));repeat (first|simp -implicitDefEqProofs only [go_sem,seval,hwk,List.length_map,decide_true,decide_false,c5',c6',c7',c8',c9',c10',c11',c12',c13']|(with_reducible refine And.intro (Qac _ _ (by kernel_rfl)) ?_))
 refine⟨⟨i+1,hA,e⟩,by simp only;omega,Qaj (θ:=[]) rfl ?_ trivial⟩;simp [Qae,lkp,ren1,ren0,Qai,wsPV]
end Go.Proofs.YtdpajapkhembcaaGreatDoor

namespace Go.Vl
open Go.RowKit
def Box.renD (θ:List (Nat×Nat)) (B' B:Box):Prop:=
 Box.renames θ B' B∨(B'.esz=B.esz∧B'.ety=B.ety∧B'.fro=B.fro∧B'.live=B.live∧(B'.arr,B'.mp)=(B.arr,B.mp)∧B'.arr=false∧Qlt θ B'.els=some B.els∧(B'.els.all fun v=>Qa2 v.cells)=true)
theorem Box.renD.parts {θ:List (Nat×Nat)} {B' B:Box} (h:Box.renD θ B' B):B'.esz=B.esz∧B'.ety=B.ety∧B'.fro=B.fro∧B'.live=B.live∧(B'.arr,B'.mp)=(B.arr,B.mp)∧
  ((B'.arr=true∧B.els=B'.els)∨(B'.arr=false∧ ∃v v',B'.els=[v']∧B.els=[v]∧ren1 θ v'=some v∧Qa2 v'.cells=true)∨(B'.arr=false∧Qlt θ B'.els=some B.els∧(B'.els.all fun v=>Qa2 v.cells)=true)):=by
 rcases h with⟨a,b,c,d,e,f|f⟩|⟨a,b,c,d,e,f,g,h⟩
 ·exact⟨a,b,c,d,e,.inl f⟩
 ·exact⟨a,b,c,d,e,.inr (.inl f)⟩
 ·exact⟨a,b,c,d,e,.inr (.inr ⟨f,g,h⟩)⟩
theorem Qkv {w:World} {im:Im} {θ:List (Nat×Nat)} {ρ ρ':Rho} (hρ: ∀b b0 x,lkp θ b=some b0→ρ b0=some x→ρ' b=some x): ∀(vs' vs:List PV),Qlt θ vs'=some vs→(vs'.all fun v=>Qa2 v.cells)=true→
  vs'.map (fun v=>v.cells.length)=vs.map (fun v=>v.cells.length)∧ ∀us,LRL w im ρ (vs.flatMap PV.cells) us→LRL w im ρ' (vs'.flatMap PV.cells) us
 | [],vs,h,_=>by
  simp only [Qlt,Option.some.injEq]at h;subst h;exact⟨rfl,fun us hu=>by cases hu.nil_inv;exact .nil⟩
 |v'::vs',vs,h,ho=>by
  simp only [List.all_cons,Bool.and_eq_true]at ho;simp only [Qlt]at h;cases h1:ren1 θ v' with
  |none=>rw [h1]at h;cases h
  |some x=>
   rw [h1]at h;simp only at h;cases h2:Qlt θ vs' with
   |none=>rw [h2]at h;cases h
   |some xs=>
    rw [h2]at h;simp only [Option.some.injEq]at h;subst h;obtain⟨k1,k2⟩:=Qh1 (w:=w) (im:=im) h1 ho.1;obtain⟨m1,m2⟩:=Qkv (w:=w) (im:=im) hρ vs' xs h2 ho.2;refine⟨by rw [List.map_cons,List.map_cons,k1,m1],fun us hu=> ?_⟩;rw [List.flatMap_cons]at hu ⊢;obtain⟨u1,u2,rfl,l1,l2⟩:=hu.split;exact(k2 ρ ρ' hρ u1 l1).append (m2 u2 l2)
def Qeh (θ:List (Nat×Nat)) (bs:List (Nat×Box)):List (Nat×Box)→Prop
 | []=>True
 |(b,B')::rest=>(match lkp θ b with
  |some b0=>match lkp bs b0 with
   |some B=>Box.renD θ B' B
   |none=>False
  |none=>False)∧Qeh θ bs rest
theorem Qay.toD {θ:List (Nat×Nat)} {bs:List (Nat×Box)}: ∀{bs':List (Nat×Box)},Qay θ bs bs'→Qeh θ bs bs'
 | [],_=>trivial
 |(b,B')::rest,h=>by
  refine⟨?_,Qay.toD h.2⟩;have h1:=h.1;cases e0:lkp θ b with
  |none=>rw [e0]at h1;exact h1.elim
  |some b0=>
   rw [e0]at h1;simp only at h1 ⊢;cases e1:lkp bs b0 with
   |none=>rw [e1]at h1;exact h1.elim
   |some B=>rw [e1]at h1;exact .inl h1
theorem Qjz {θ:List (Nat×Nat)} {bs bs':List (Nat×Box)} (h:Qeh θ bs bs') {b:Nat} {B':Box} (hB:lkp bs' b=some B'): ∃b0 B,lkp θ b=some b0∧lkp bs b0=some B∧Box.renD θ B' B:=by
 induction bs' with
 |nil=>cases hB
 |cons p rest ih=>
  obtain⟨k,x⟩:=p;unfold lkp at hB;split at hB
  ·rename_i e;cases hB;subst e;have h1:=h.1;cases e0:lkp θ b with
   |none=>rw [e0]at h1;exact h1.elim
   |some b0=>
    rw [e0]at h1;simp only at h1;cases e1:lkp bs b0 with
    |none=>rw [e1]at h1;exact h1.elim
    |some B=>rw [e1]at h1;exact⟨b0,B,rfl,e1,h1⟩
  ·exact ih h.2 hB
theorem Zd1 {θ:List (Nat×Nat)} {vs vs':List (Nat×PV)} {bs bs':List (Nat×Box)} {o:List (List PV)} {y:Yl} (hθ:Qor θ bs'=true) (hv:Qae θ vs vs') (hb:Qeh θ bs bs'):Le (St.ofG vs bs o y) (St.ofG vs' bs' o y):=by
 simp only [Qor,Bool.and_eq_true]at hθ;obtain⟨hκ,hθ⟩:=hθ;have hinj: ∀b1 b2 b0,lkp θ b1=some b0→lkp θ b2=some b0→b1=b2:=by
  intro b1 b2 b0 e1 e2;have z1:=(Qb0 hκ).1 e1;have z2:=(Qb0 hκ).1 e2;rw [z1]at z2;exact Option.some.inj z2
 have hall: ∀b b0,lkp θ b=some b0→(lkp bs' b).isSome=true∧(LENT≤b→b0=b):=by
  intro b b0 e;have:=List.all_eq_true.1 hθ _ (Qbx e);simp only [Bool.and_eq_true,Bool.or_eq_true,beq_iff_eq]at this;refine⟨this.1,fun hL=> ?_⟩;rcases this.2 with q|q
  ·have:=Nat.le_of_ble_eq_true q;omega
  ·exact q.symm
 have hkey: ∀b b0,lkp θ b=some b0→(lkp bs' b).isSome=true:=fun b b0 e=>(hall b b0 e).1;rintro C a w ⟨ρ,im,h⟩;have hthere: ∀b B',lkp bs' b=some B'→ ∃b0 B x,lkp θ b=some b0∧lkp bs b0=some B∧Box.renD θ B' B∧ρ b0=some x:=by
  intro b B' hB';obtain⟨b0,B,e1,e2,e3⟩:=Qjz hb hB';cases hx:ρ b0 with
  |none=>
   have:=(h.rho b0).1 hx;simp only [Qif]at this;rw [e2]at this;cases this
  |some x=>exact⟨b0,B,x,e1,e2,e3,hx⟩
 obtain⟨ρ',hρ'⟩: ∃ρ':Rho,∀b,ρ' b=(lkp θ b).bind ρ:=⟨fun b=>(lkp θ b).bind ρ,fun _=>rfl⟩;have hρ: ∀b b0 x,lkp θ b=some b0→ρ b0=some x→ρ' b=some x:=by
  intro b b0 x e1 e2;rw [hρ',e1];exact e2
 have hback: ∀b x,ρ' b=some x→ ∃b0,lkp θ b=some b0∧ρ b0=some x:=by
  intro b x e;rw [hρ']at e;cases hb0:lkp θ b with
  |none=>rw [hb0]at e;cases e
  |some b0=>rw [hb0]at e;exact⟨b0,rfl,e⟩
 refine⟨ρ',im,h.step ⟨.refl _ _ _,Keeps.refl _ _,?_,fun _ _ x=>x,fun _ _ x=> .inl x⟩ ?_,h.nt,h.dfr,h.imc,?_,?_,?_,?_⟩
 ·rintro g ⟨b,hb'⟩;obtain⟨b0,_,e⟩:=hback b _ hb';exact .inl ⟨b0,e⟩
 ·intro b x x' hL h0 hx';obtain⟨b0,e1,e2⟩:=hback b x' hx';rw [(hall b b0 e1).2 hL]at e2;exact h.root.rho0 b x x' hL h0 e2
 ·intro t v hvt;obtain⟨x,e1,e2⟩:=Qe0 hv hvt;exact Qh0 hρ e2 (h.var t x e1)
 ·intro b;constructor
  ·intro e;cases hB':lkp bs' b with
   |none=>exact hB'
   |some B'=>
    obtain⟨b0,B,x,e1,_,_,e4⟩:=hthere b B' hB';rw [hρ b b0 x e1 e4]at e;cases e
  ·intro e;rw [hρ'];cases hb0:lkp θ b with
   |none=>rfl
   |some b0=>have:=hkey b b0 hb0;simp only [Qif]at e;rw [e]at this;cases this
 ·intro b x B' hx hB';obtain⟨b0,B,x0,e1,e2,r0,e4⟩:=hthere b B' hB';obtain⟨r1,r2,r3,r4,r5,r6⟩:=r0.parts;obtain⟨r5,rm⟩:=Prod.mk.inj r5;rw [hρ b b0 x0 e1 e4]at hx;cases hx;have hbox:=h.box b0 x B e4 e2;cases x with
  |none=>
   obtain⟨z1,z2,z3,z4⟩:=hbox;rcases r6 with⟨_,r6⟩|⟨q1,v,v',q2,q3,_⟩|⟨q1,q2,_⟩
   ·exact⟨by rw [←r6];exact z1,by rw [r5];exact z2,by rw [r3];exact z3,by rw [r1];exact z4⟩
   ·rw [q3]at z1;cases z1
   ·rw [r5]at q1;rw [q1]at z2;cases z2
  |some g=>
   obtain⟨h1,h2,h3,h4,⟨hmn,cur,us,rest,h5,h6,h7,h8,h9,h10,h11⟩|hm⟩:=hbox
   case inr=>
    rcases r6 with⟨ra,r6⟩|⟨q1,v,v',q2,q3,q4,q5⟩|⟨q1,q2,q3⟩
    ·obtain⟨m1,m2,m3,m4⟩:=hm;exact⟨h1,by rw [r3,←r6];exact h2,by rw [r1];exact h3,by rw [r1,←r6];exact h4,.inr ⟨by rw [←r6];exact m1,ra,by rw [r4];exact m3,by rw [rm];exact m4⟩⟩
    ·rw [hm.1]at q3;cases q3
    ·rw [r5,hm.2.1]at q1;cases q1
   rcases r6 with⟨ra,r6⟩|⟨q1,v,v',q2,q3,q4,q5⟩|⟨q1,q2,q3⟩
   ·refine⟨h1,by rw [r3,←r6];exact h2,by rw [r1];exact h3,by rw [r1,←r6];exact h4,.inl ⟨rm.trans hmn,cur,us,rest,by rw [r2];exact h5,h6,?_,by rw [r5,←r6];exact h8,h9,by rw [r3,r1,r4];exact h10,by rw [r3,r1,r4];exact h11⟩⟩;rw [←r6];exact(h8 (by rw [←r5];exact ra)).toLRL
   ·obtain⟨k1,k2⟩:=Qh1 (w:=w) (im:=im) q4 q5;rw [q3]at h2 h4 h7 h8;simp only [List.flatMap_cons,List.flatMap_nil,List.append_nil]at h7 h8;refine⟨h1,by rw [r3,q2];exact h2,by rw [r1];exact h3,?_,.inl ⟨rm.trans hmn,cur,us,rest,by rw [r2];exact h5,h6,?_,?_,h9,by rw [r3,r1,r4];exact h10,by rw [r3,r1,r4];exact h11⟩⟩
    ·intro e he;rw [q2]at he;simp only [List.mem_singleton]at he;subst he;rw [k1,r1];exact h4 v (by simp)
    ·rw [q2];simpa using k2 ρ ρ' hρ us h7
    ·intro ha;rw [q1]at ha;cases ha
   ·obtain⟨k1,k2⟩:=Qkv (w:=w) (im:=im) (ρ:=ρ) (ρ':=ρ') hρ B'.els B.els q2 q3;have kl:B'.els.length=B.els.length:=by have:=congrArg List.length k1;simpa using this
    refine⟨h1,by rw [r3,kl];exact h2,by rw [r1];exact h3,?_,.inl ⟨rm.trans hmn,cur,us,rest,by rw [r2];exact h5,h6,k2 us h7,fun(ha:B'.arr=true)=>absurd (q1.symm.trans ha) (by decide),h9,by rw [r3,r1,r4];exact h10,by rw [r3,r1,r4];exact h11⟩⟩;intro e he;have:e.cells.length∈B'.els.map (fun v=>v.cells.length):=List.mem_map.2 ⟨e,he,rfl⟩;rw [k1]at this;obtain⟨d,hd,e3⟩:=List.mem_map.1 this;rw [←e3,r1];exact h4 d hd
 ·intro b1 b2 g B1 B2 p1 p2 e1 e2 l1 l2;obtain⟨b01,t1,t2⟩:=hback b1 _ p1;obtain⟨b02,t3,t4⟩:=hback b2 _ p2;obtain⟨c01,D1,x1,u1,u2,r10,u4⟩:=hthere b1 B1 e1;obtain⟨c02,D2,x2,u5,u6,r20,u8⟩:=hthere b2 B2 e2;have v1:=r10.parts.2.2.2.1;have v2:=r20.parts.2.2.2.1;rw [t1]at u1;cases u1;rw [t3]at u5;cases u5;have:=h.inj b01 b02 g D1 D2 t2 t4 u2 u6 (by rw [←v1];exact l1) (by rw [←v2];exact l2);subst this;exact hinj b1 b2 b01 t1 t3
end Go.Vl
