/-
  UEq, UC, UD, UE (merged for the claim).
-/
import Derived.Test.YtcaffiaempefjaaGreatDoorUB3
set_option linter.unusedSimpArgs false
set_option linter.unusedVariables false
namespace Go.Vl
open Go.RowKit
def Qkc (P:Program) (rec:TypeId→Option (List Nat)):List Field→Nat→Option (List Nat)
 | [],_=>some []
 |f::fs,off=>if f.name= "_" then none else if f.offset=off then(match rec f.type with
   |none=>none
   |some sh=>if P.cellsOf f.type=sh.length∧(P.info? f.type).isSome=true∧sh≠ []then(match Qkc P rec fs (off+sh.length)with
    |some r=>some (sh++r)
    |none=>none)else none)else none
def Qjb (P:Program):Nat→TypeId→Option (List Nat)
 |0,_=>none
 |d+1,t=>match P.underlying t with
  |some .bool=>some [0]
  |some (.int _)=>some [1]
  |some .string=>some [2]
  |some (.struct fs)=>if P.stoodInHeld t=true then none else Qkc P (Qjb P d) fs.toList 0
  |_=>none
def Qbr:List Nat→List PV→List PV→Option Bool
 | [],[],[]=>some true
 |0::s,.bool a::xs,.bool b::ys=>(Qbr s xs ys).map fun r=>(a==b)&&r
 |1::s,.int k a::xs,.int k' b::ys=>if k=k' then(Qbr s xs ys).map fun r=>(a==b)&&r else none
 |2::s,.str a::xs,.str b::ys=>(Qbr s xs ys).map fun r=>(a==b)&&r
 |_,_,_=>none
theorem Qcl: ∀{s:List Nat} {xs ys:List PV} {b:Bool},Qbr s xs ys=some b→xs.length=s.length∧ys.length=s.length
 | [],xs,ys,b,h=>by
  unfold Qbr at h;split at h<;>first|exact⟨rfl,rfl⟩|(rename_i e;cases e)|cases h
 |k::s,xs,ys,b,h=>by
  unfold Qbr at h;split at h
  ·rename_i e;cases e
  ·rename_i e;cases e;obtain⟨r,hr,_⟩:=Option.map_eq_some_iff.1 h;have:=Qcl hr;simp [this]
  ·rename_i e;cases e;split at h
   ·obtain⟨r,hr,_⟩:=Option.map_eq_some_iff.1 h;have:=Qcl hr;simp [this]
   ·cases h
  ·rename_i e;cases e;obtain⟨r,hr,_⟩:=Option.map_eq_some_iff.1 h;have:=Qcl hr;simp [this]
  ·cases h
theorem Qeg: ∀{s r:List Nat} {xs ys:List PV} {b:Bool},Qbr (s++r) xs ys=some b→
  ∃b1 b2,Qbr s (xs.take s.length) (ys.take s.length)=some b1∧Qbr r (xs.drop s.length) (ys.drop s.length)=some b2∧b=(b1&&b2)
 | [],r,xs,ys,b,h=>⟨true,b,by simp [Qbr],by simpa using h,by simp⟩
 |k::s,r,xs,ys,b,h=>by
  rw [List.cons_append]at h;unfold Qbr at h;split at h
  ·rename_i e;cases e
  ·rename_i e;cases e;obtain⟨c,hc,rfl⟩:=Option.map_eq_some_iff.1 h;obtain⟨b1,b2,h1,h2,rfl⟩:=Qeg hc;exact⟨_,b2,(by rw [List.length_cons,List.take_succ_cons,List.take_succ_cons,Qbr,h1];first|rfl|(rw [if_pos rfl];rfl)),by simpa using h2,by simp [Bool.and_assoc]⟩
  ·rename_i e;cases e;split at h
   ·rename_i hk;subst hk;obtain⟨c,hc,rfl⟩:=Option.map_eq_some_iff.1 h;obtain⟨b1,b2,h1,h2,rfl⟩:=Qeg hc;exact⟨_,b2,(by rw [List.length_cons,List.take_succ_cons,List.take_succ_cons,Qbr,h1];first|rfl|(rw [if_pos rfl];rfl)),by simpa using h2,by simp [Bool.and_assoc]⟩
   ·cases h
  ·rename_i e;cases e;obtain⟨c,hc,rfl⟩:=Option.map_eq_some_iff.1 h;obtain⟨b1,b2,h1,h2,rfl⟩:=Qeg hc;exact⟨_,b2,(by rw [List.length_cons,List.take_succ_cons,List.take_succ_cons,Qbr,h1];first|rfl|(rw [if_pos rfl];rfl)),by simpa using h2,by simp [Bool.and_assoc]⟩
  ·cases h
theorem Qxq {a c:List PV} {b:Bool} (h:Qbr [] a c=some b):b=true:=by
 cases a<;>cases c<;>simp_all [Qbr]
def Whole (us:List Value) (v:Value):Prop:=us=[v]∨v= .agg us.toArray
section
variable {P:Program} {w:World} {im:Im} {ρ:Rho}
theorem Qqf {t:TypeId} {us:List Value} {off:Nat} {i:TypeInfo} (hi:P.info? t=some i) (hu:(P.underlying t).isSome=true) (hl:off+i.size≤us.length)
  (hsz:(match P.underlying t with|some (.struct _)|some (.array _ _)=>true|_=>false)=false→i.size=1):
  ∃v,(part t us.toArray off).run P w= .ok v w∧((match P.underlying t with|some (.struct _)|some (.array _ _)=>true|_=>false)=true→v= .agg ((us.drop off).take i.size).toArray)∧
   ((match P.underlying t with|some (.struct _)|some (.array _ _)=>true|_=>false)=false→(us.drop off).take i.size=[v]):=by
 obtain⟨d,hd⟩:=Option.isSome_iff_exists.1 hu;have hs:(sizeOf t).run P w= .ok i.size w:=by simp [sizeOf,typeInfo,hi]
 have hag: ∀b,(isAgg t).run P w= .ok b w↔b=(match P.underlying t with|some (.struct _)|some (.array _ _)=>true|_=>false):=by
  intro b;rw [hd];cases d<;>simp [isAgg,run_underlying hd]<;>exact eq_comm
 cases hb:(match P.underlying t with|some (.struct _)|some (.array _ _)=>true|_=>false)with
 |true=>
  refine⟨.agg ((us.drop off).take i.size).toArray,?_,fun _=>rfl,fun h=>by cases h⟩;have:=(hag true).2 hb.symm;simp only [part,Sem.run_bind,this,Result.andThen_ok,if_true,hs,Sem.run_pure];congr 2;apply Array.ext';simp [List.extract_eq_take_drop]
 |false=>
  have h1:=hsz hb;have hlt:off<us.length:=by omega
  refine⟨us[off],?_,fun h=>(by cases h),fun _=> ?_⟩
  ·have:=(hag false).2 hb.symm;simp [part,this,hlt]
  ·rw [h1];simp [List.take_one,List.head?_drop,hlt]
theorem Qkd: ∀(d:Nat) (t:TypeId) (sh:List Nat) (xs ys:List PV) (us vs:List Value) (x y:Value) (b:Bool),Qjb P d t=some sh→Qbr sh xs ys=some b→LRL w im ρ xs us→LRL w im ρ ys vs→
  ((match P.underlying t with|some (.struct _)|some (.array _ _)=>true|_=>false)=true→x= .agg us.toArray∧y= .agg vs.toArray)→
  ((match P.underlying t with|some (.struct _)|some (.array _ _)=>true|_=>false)=false→us=[x]∧vs=[y])→(Op.equalIn d t x y).run P w= .ok b w
 |0,_,_,_,_,_,_,_,_,_,h,_,_,_,_,_=>by cases h
 |d+1,t,sh,xs,ys,us,vs,x,y,b,hsh,hc,hx,hy,hagg,hone=>by
  unfold Qjb at hsh;have inv1: ∀{v:PV} {u:Value},LRL w im ρ [v] [u]→LR w im ρ v u:=fun h=>by cases h with|cons _ _ _ _ h _=>exact h
  split at hsh
  ·rename_i hu;cases hsh;obtain⟨rfl,rfl⟩:=hone (by rw [hu]);unfold Qbr at hc;split at hc<;>first|(rename_i e;cases e;done)|skip
   ·rename_i a xs' b' ys' e;cases e;obtain⟨r,hr,rfl⟩:=Option.map_eq_some_iff.1 hc;have hl:=Qcl hr;have e1:xs'=[]:=List.length_eq_zero_iff.1 hl.1;have e2:ys'=[]:=List.length_eq_zero_iff.1 hl.2;subst e1;subst e2;simp [Qbr]at hr;subst hr;cases inv1 hx with|ext _ _ h1=>cases h1;cases inv1 hy with|ext _ _ h2=>cases h2;simp [Op.equalIn,run_underlying hu]
   ·cases hc
  ·rename_i k hu;cases hsh;obtain⟨rfl,rfl⟩:=hone (by rw [hu]);unfold Qbr at hc;split at hc<;>first|(rename_i e;cases e;done)|skip
   ·rename_i k1 a xs' k2 b' ys' e;cases e;split at hc
    ·rename_i hk;subst hk;obtain⟨r,hr,rfl⟩:=Option.map_eq_some_iff.1 hc;have hl:=Qcl hr;have e1:xs'=[]:=List.length_eq_zero_iff.1 hl.1;have e2:ys'=[]:=List.length_eq_zero_iff.1 hl.2;subst e1;subst e2;simp [Qbr]at hr;subst hr;cases inv1 hx with|ext _ _ h1=>cases h1;cases inv1 hy with|ext _ _ h2=>cases h2;simp [Op.equalIn,run_underlying hu]
    ·cases hc
   ·cases hc
  ·rename_i hu;cases hsh;obtain⟨rfl,rfl⟩:=hone (by rw [hu]);unfold Qbr at hc;split at hc<;>first|(rename_i e;cases e;done)|skip
   ·rename_i a xs' b' ys' e;cases e;obtain⟨r,hr,rfl⟩:=Option.map_eq_some_iff.1 hc;have hl:=Qcl hr;have e1:xs'=[]:=List.length_eq_zero_iff.1 hl.1;have e2:ys'=[]:=List.length_eq_zero_iff.1 hl.2;subst e1;subst e2;simp [Qbr]at hr;subst hr;cases inv1 hx with|ext _ _ h1=>cases h1;cases inv1 hy with|ext _ _ h2=>cases h2;simp [Op.equalIn,run_underlying hu]
   ·cases hc
  ·rename_i fs hu;split at hsh
   ·cases hsh
   rename_i hst;have hst:P.stoodInHeld t=false:=by simpa using hst
   obtain⟨rfl,rfl⟩:=hagg (by rw [hu]);simp only [Op.equalIn,Sem.run_bind,run_underlying hu,Result.andThen_ok];have key: ∀(l:List Field) (off:Nat) (sh:List Nat) (b:Bool),Qkc P (Qjb P d) l off=some sh→Qbr sh (xs.drop off) (ys.drop off)=some b→off≤xs.length→off≤ys.length→
     ((forIn l ((none:Option Bool),()) fun(f:Field) (__s:Option Bool×Unit)=>
      if f.name= "_" then(pure (ForInStep.yield (none,())):Sem (ForInStep (Option Bool×Unit)))else do
       let x←part f.type us.toArray f.offset
       let y←part f.type vs.toArray f.offset
       let r←Op.equalIn d f.type x y
       if r=false then pure (ForInStep.done (some false,()))else pure (ForInStep.yield (none,()))).run P w)= .ok (if b then none else some false,()) w:=by
    intro l
    induction l with
    |nil=>
     intro off sh b h1 h2 _ _;simp [Qkc]at h1;subst h1;have:=Qxq h2;subst this;simp
    |cons f fs ih=>
     intro off sh b h1 h2 hlx hly;unfold Qkc at h1;split at h1
     ·cases h1
     rename_i hname;split at h1
     case isFalse=>cases h1
     rename_i hoff;subst hoff;split at h1
     ·cases h1
     rename_i sh1 hsh1;split at h1
     case isFalse=>cases h1
     rename_i hcell;obtain⟨hcell,hinfo,hne⟩:=hcell;split at h1
     case h_2=>cases h1
     rename_i sh2 hsh2;cases h1;obtain⟨b1,b2,k1,k2,rfl⟩:=Qeg h2;obtain⟨i,hi⟩:=Option.isSome_iff_exists.1 hinfo;have hcs:i.size=sh1.length:=by rw [←hcell];simp [Program.cellsOf,hi]
     have kl:=Qcl k1;simp only [List.length_take,List.length_drop]at kl;have hund:(P.underlying f.type).isSome=true:=by
      cases d with
      |zero=>cases hsh1
      |succ d=>
       unfold Qjb at hsh1;split at hsh1<;>first|(rename_i e;rw [e];rfl)|cases hsh1
     have hag1:(match P.underlying f.type with|some (.struct _)|some (.array _ _)=>true|_=>false)=false→i.size=1:=by
      intro hh;cases d with
      |zero=>cases hsh1
      |succ d=>
       unfold Qjb at hsh1;split at hsh1
       ·cases hsh1;exact hcs
       ·cases hsh1;exact hcs
       ·cases hsh1;exact hcs
       ·rename_i e;rw [e]at hh;cases hh
       ·cases hsh1
     have lx:=hx.length;have ly:=hy.length;obtain⟨p1,q1,q2,q3⟩:=Qqf (P:=P) (w:=w) (us:=us) (off:=f.offset) hi hund (by omega) hag1;obtain⟨p2,r1,r2,r3⟩:=Qqf (P:=P) (w:=w) (us:=vs) (off:=f.offset) hi hund (by omega) hag1;have heq:=Qkd d f.type sh1 ((xs.drop f.offset).take sh1.length) ((ys.drop f.offset).take sh1.length) ((us.drop f.offset).take i.size) ((vs.drop f.offset).take i.size) p1 p2 b1 hsh1 k1
      (by rw [hcs];exact(hx.drop _).take _) (by rw [hcs];exact(hy.drop _).take _) (fun hh=>⟨q2 hh,r2 hh⟩) (fun hh=>⟨q3 hh,r3 hh⟩)
     rw [List.forIn_cons];simp only [Sem.run_bind,hname,if_false,q1,r1,Result.andThen_ok,heq];cases b1 with
     |false=>simp
     |true=>
      simp only [Bool.true_eq_false,if_false,Sem.run_pure,Result.andThen_ok,Bool.true_and];rw [List.drop_drop,List.drop_drop]at k2;exact ih (f.offset+sh1.length) sh2 b2 hsh2 k2 (by omega) (by omega)
   have:=key fs.toList 0 sh b hsh (by simpa using hc) (Nat.zero_le _) (Nat.zero_le _);rw [Array.forIn_toList]at this;simp [hst];rw [this];cases b<;>simp
  ·cases hsh
end
end Go.Vl

namespace Go.Vl
inductive Eff where
 |new (b:Nat) (B:Box)
 |wr (b i:Nat) (e:PV)
 |fro (b n:Nat)
 |kill (b:Nat)
 |yld (args:List PV)
abbrev YID:Nat:=999999
def Eff.id:Eff→Nat
 | .new b _| .wr b _ _| .fro b _| .kill b=>b
 | .yld _=>YID
def Eff.hard:Eff→Bool
 | .fro _ _=>false
 |_=>true
def Eff.on (e:Eff) (st:St):St:=
 match e with
 | .new b B=>st.setBox b B
 | .wr b i v=>match st.box b with
  |some B=>st.setBox b {B with els:=B.els.set i v}
  |none=>st
 | .fro b n=>match st.box b with
  |some B=>st.setBox b {B with fro:=max B.fro n,live:=B.live&&true}
  |none=>st
 | .kill b=>match st.box b with
  |some B=>st.setBox b {B with els:=[],fro:=0,live:=false}
  |none=>st
 | .yld args=>{st with out:=st.out++[args]}
def Qao (es:List Eff) (st:St):St:=es.foldl (fun s e=>e.on s) st
inductive Out where
 |done (v:PV) (effs:List Eff)
 |call (f:FuncId) (args:List PV) (effs:List Eff)
 |callB (f:FuncId) (args:List PV) (bxs:List (Nat×Box)) (effs:List Eff) (θ ν:List (Nat×Nat))
 |yield (n stop:Nat) (args:List PV) (effs:List Eff)
structure SB where
 els:List PV
 esz:Nat
 ety:TypeId
 arr:Bool
def Box.soft (B:Box):SB:=⟨B.els,B.esz,B.ety,B.arr⟩
abbrev Bx:=Nat→Option Box
abbrev Acc:=List (Nat×Bool)
abbrev M (α:Type):=Bx→Option (α×Acc)
def M.pure {α:Type} (a:α):M α:=fun _=>some (a,[])
def M.fail {α:Type}:M α:=fun _=>none
def M.bind {α β:Type} (m:M α) (f:α→M β):M β:=fun bx=>
 match m bx with
 |none=>none
 |some (a,l)=>match f a bx with
  |none=>none
  |some (c,l')=>some (c,l++l')
def M.soft (b:Nat):M SB:=fun bx=>match bx b with
 |some B=>some (B.soft,[(b,false)])
 |none=>none
def M.hard (b:Nat):M (Option Box):=fun bx=>some (bx b,[(b,true)])
def M.ofOpt {α:Type} (x:Option α):M α:=fun _=>x.map fun a=>(a,[])
def M.ok (c:Bool):M Unit:=fun _=>if c then some ((),[])else none
def Qb5 (P:Program) (t:TypeId):Bool:=match P.underlying t with
 |some (.struct _)|some (.array _ _)=>true
 |_=>false
def tyOk (P:Program) (t:TypeId):Bool:=(P.underlying t).isSome&&(P.info? t).isSome
def Qb3 (P:Program) (t:TypeId):Option TypeId:=match P.underlying t with
 |some (.slice e)=>some e
 |_=>none
def Qgf (P:Program) (t:TypeId):Option (Nat×TypeId):=match P.underlying t with
 |some (.array n e)=>some (n,e)
 |_=>none
def Qa4 (P:Program) (t:TypeId) (f:Nat):Option (Nat×TypeId×Nat):=match P.underlying t with
 |some (.struct fs)=>match fs[f]? with
  |some x=>match P.info? x.type with
   |some i=>if i.size=0 then none else some (x.offset,x.type,i.size)
   |none=>none
  |none=>none
 |_=>none
def Qaz (P:Program) (t:TypeId):Option (Nat×Nat):=(P.info? t).map fun i=>(i.size,i.bytes)
def Qfh:Value→Option PV
 | .bool b=>some (.bool b)
 | .int k n=>some (.int k n)
 | .string s=>some (.str s)
 | .slice none 0 0=>some .nilS
 | .nilFunc=>some .nilF
 | .nilIface=>some .nilI
 | .func (.func f) a b=>if a.size=0∧b.size=0 then some (.fn f [] [])else none
 |_=>none
def Qcp:List Value→Option (List PV)
 | []=>some []
 |v::vs=>match Qfh v,Qcp vs with
  |some x,some xs=>some (x::xs)
  |_,_=>none
def Qgz:Value→Option PV
 | .agg cs=>(Qcp cs.toList).map .agg
 | .tuple cs=>if cs.size=0 then some (.tup [])else none
 |v=>Qfh v
def Qa8 (P:Program) (t:TypeId):Option PV:=match P.info? t with
 |some i=>match i.zero with
  |some z=>Qgz z
  |none=>none
 |none=>none
def Zcr (P:Program) (t:TypeId):Option PV:=match P.info? t with
 |some i=>match i.zero with
  |some (.agg cs)=>some (.agg (List.replicate cs.size .undef))
  |_=>none
 |none=>none
def Qqb (P:Program) (t:TypeId):Option PV:=match Qa8 P t with
 |some z=>some z
 |none=>Zcr P t
def escS:PV→M (PV×List Eff)
 | .bs b esz off len=> .bind (.soft b) fun B=> .bind (.ok (B.arr&&B.esz==esz&&off+len≤B.els.length)) fun _=> .pure (.slc ((B.els.drop off).take len),[.fro b (off+len)])
 | .nilS=> .pure (.slc [],[])
 | .fn f [] []=> .pure (.fn f [] [],[])
 | .fn _ _ _| .bp _ _ _ _| .undef| .tup _| .agg _=> .fail
 |v=> .pure (v,[])
def Zcs:List PV→M (List PV×List Eff)
 | []=> .pure ([],[])
 |v::vs=> .bind (escS v) fun x=> .bind (Zcs vs) fun y=> .pure (x.1::y.1,x.2++y.2)
def escE:PV→M (PV×List Eff)
 | .agg cs=> .bind (Zcs cs) fun y=> .pure (.agg y.1,y.2)
 |v=>escS v
def Q3k:List PV→M (List PV×List Eff)
 | []=> .pure ([],[])
 |v::vs=> .bind (escE v) fun x=> .bind (Q3k vs) fun y=> .pure (x.1::y.1,x.2++y.2)
def esc0:PV→M (PV×List Eff)
 | .bs b esz off len=> .bind (.soft b) fun B=>if B.arr=true then escS (.bs b esz off len)else
   .bind (.ok (B.esz==esz&&off+len≤B.els.length)) fun _=> .bind (Q3k ((B.els.drop off).take len)) fun y=> .pure (.slc y.1,y.2++[.fro b (off+len)])
 |v=>escS v
def escL:List PV→M (List PV×List Eff)
 | []=> .pure ([],[])
 |v::vs=> .bind (esc0 v) fun x=> .bind (escL vs) fun y=> .pure (x.1::y.1,x.2++y.2)
def escC:PV→M (PV×List Eff)
 | .bp b esz i off=> .bind (.soft b) fun B=> .bind (.ok (B.esz==esz)) fun _=> .bind (.ofOpt B.els[i]?) fun e=> .bind (escL (e.cells.drop off)) fun y=> .pure (.rp y.1,.fro b (i+1)::y.2)
 |v=>esc0 v
def Qgg:List PV→M (List PV×List Eff)
 | []=> .pure ([],[])
 |v::vs=> .bind (escC v) fun x=> .bind (Qgg vs) fun y=> .pure (x.1::y.1,x.2++y.2)
def esc1:PV→M (PV×List Eff)
 | .agg cs=> .bind (escL cs) fun y=> .pure (.agg y.1,y.2)
 | .fn f a c=> .bind (Qgg a) fun x=> .bind (Qgg c) fun y=> .pure (.fn f x.1 y.1,x.2++y.2)
 |v=>escC v
def Qg0:List PV→M (List PV×List Eff)
 | []=> .pure ([],[])
 |v::vs=> .bind (esc1 v) fun x=> .bind (Qg0 vs) fun y=> .pure (x.1::y.1,x.2++y.2)
def lkp {α:Type}:List (Nat×α)→Nat→Option α
 | [],_=>none
 |(k,v)::l,j=>if j=k then some v else lkp l j
def rlk:List (Nat×Nat)→Nat→Option Nat
 | [],_=>none
 |(k,v)::l,j=>if j=v then some k else rlk l j
def Qii (κ:List (Nat×Nat)):Bool:=κ.all fun p=>lkp κ p.1==some p.2&&rlk κ p.2==some p.1
def ren0 (θ:List (Nat×Nat)):PV→Option PV
 | .bp b esz i off=>match lkp θ b with
  |some b'=>some (.bp b' esz i off)
  |none=>none
 | .bs b esz off len=>match lkp θ b with
  |some b'=>some (.bs b' esz off len)
  |none=>none
 | .fn f [] []=>some (.fn f [] [])
 | .fn _ _ _| .agg _| .tup _=>none
 |v=>some v
def Qan (θ:List (Nat×Nat)):List PV→Option (List PV)
 | []=>some []
 |v::vs=>match ren0 θ v with
  |none=>none
  |some x=>match Qan θ vs with
   |none=>none
   |some xs=>some (x::xs)
def ren1 (θ:List (Nat×Nat)):PV→Option PV
 | .agg cs=>match Qan θ cs with
  |some xs=>some (.agg xs)
  |none=>none
 | .tup []=>some (.tup [])
 | .fn f a c=>match Qan θ a with
  |none=>none
  |some x=>match Qan θ c with
   |none=>none
   |some y=>some (.fn f x y)
 |v=>ren0 θ v
def Qob (θ:List (Nat×Nat)):List PV→Option (List PV)
 | []=>some []
 |v::vs=>match ren1 θ v with
  |none=>none
  |some x=>match Qob θ vs with
   |none=>none
   |some xs=>some (x::xs)
def ren2 (θ:List (Nat×Nat)):PV→Option PV
 | .tup vs=>match Qob θ vs with
  |some xs=>some (.tup xs)
  |none=>none
 |v=>ren1 θ v
abbrev Tab:=List (Nat×List (Nat×Nat)×List (Nat×Nat))
def Q3l (θ:List (Nat×Nat)):PV→M (PV×List Eff)
 | .bs b esz off len=>match rlk θ b with
  |some b'=> .pure (.bs b' esz off len,[])
  |none=>escC (.bs b esz off len)
 | .bp b esz i off=>match rlk θ b with
  |some b'=> .pure (.bp b' esz i off,[])
  |none=>escC (.bp b esz i off)
 |v=>escC v
def Qqc (θ:List (Nat×Nat)):List PV→M (List PV×List Eff)
 | []=> .pure ([],[])
 |v::vs=> .bind (Q3l θ v) fun x=> .bind (Qqc θ vs) fun y=> .pure (x.1::y.1,x.2++y.2)
def Q3m (θ:List (Nat×Nat)):PV→M (PV×List Eff)
 | .bs b esz off len=>match rlk θ b with
  |some b'=> .pure (.bs b' esz off len,[])
  |none=>esc1 (.bs b esz off len)
 | .bp b esz i off=>match rlk θ b with
  |some b'=> .pure (.bp b' esz i off,[])
  |none=>esc1 (.bp b esz i off)
 | .fn f a c=> .bind (Qqc θ a) fun x=> .bind (Qqc θ c) fun y=> .pure (.fn f x.1 y.1,x.2++y.2)
 | .nilS=> .pure (.nilS,[])
 |v=>esc1 v
def Zct (θ:List (Nat×Nat)):List PV→M (List PV×List Eff)
 | []=> .pure ([],[])
 |v::vs=> .bind (Q3m θ v) fun x=> .bind (Zct θ vs) fun y=> .pure (x.1::y.1,x.2++y.2)
def Qja:PV→Bool
 | .bool _| .int _ _| .str _| .nilS| .nilF| .nilI| .slc _| .rp _=>true
 | .fn _ [] []=>true
 |_=>false
def Box.ext (B:Box):Bool:=B.arr||(B.els.flatMap PV.cells).all Qja
def Qhj:List (Nat×Nat)→M (List (Nat×Box))
 | []=> .pure []
 |(b',b)::θ=> .bind (.hard b) fun Bo=> .bind (.ofOpt Bo) fun B=> .bind (.ok (B.live&&B.ext&&Nat.ble LENT b')) fun _=> .bind (Qhj θ) fun bs=> .pure ((b',B)::bs)
def Qoc:List (Nat×Nat)→M Unit
 | []=> .pure ()
 |(_,n)::ν=> .bind (.hard n) fun B=> .bind (.ok (B.isNone&&Nat.blt n LENT)) fun _=>Qoc ν
def Qee (θ ν:List (Nat×Nat)) (f:FuncId) (args:List PV):M Out:=
 .bind (Zct θ args) fun y=> .bind (Qhj θ) fun bxs=> .bind (Qoc ν) fun _=>
  .bind (.ok (Qii (θ++ν)&&y.2.all fun e=>(rlk (θ++ν) e.id).isNone&& !e.hard)) fun _=> .pure (.callB f y.1 bxs y.2 θ ν)
def flatc:PV→Bool
 | .bool _| .int _ _| .str _| .nilS| .nilF| .nilI=>true
 |_=>false
def Quk:PV→Bool
 | .bs _ _ _ _| .bp _ _ _ _=>true
 |v=>flatc v
def Qul:PV→Bool
 | .agg cs=>cs.all Quk
 |v=>Quk v
def flatr:PV→Bool
 | .tup vs=>vs.all Qul
 |v=>Qul v
def Ql8 (r:PV) (bxs:List (Nat×Box)):Bool:=flatr r&&bxs.all fun p=>(p.2.els.flatMap PV.cells).all flatc
def Q3n (κ:List (Nat×Nat)):PV→Bool
 | .bs b _ _ _=>lkp κ b==some b
 | .bp b _ _ _=>lkp κ b==some b
 |v=>Qja v
def Box.idr (κ:List (Nat×Nat)) (B:Box):Bool:= !B.arr&&(B.els.flatMap PV.cells).all (Q3n κ)
def Qgh (κ:List (Nat×Nat)):List (Nat×Box)→Option (List Eff)
 | []=>some []
 |(b',B)::bs=>match lkp κ b' with
  |none=>none
  |some b=>if(B.ext||B.idr κ)=true∧(lkp bs b').isNone=true then(match Qgh κ bs with|some es=>some (.new b B::es)|none=>none)else none
def land (θ ν:List (Nat×Nat)) (bxs:List (Nat×Box)) (r:PV):Option (PV×List Eff):=
 if((θ++ν).all fun p=>(lkp bxs p.1).isSome)=true then(match ren2 (θ++ν) r,Qgh (θ++ν) bxs with
  |some r',some es=>some (r',es)
  |_,_=>none)else none
def Qdw (P:Program) (t:TypeId) (cs:List PV) (off:Nat):Option PV:=
 if tyOk P t then
  if Qb5 P t then(if off+P.cellsOf t≤cs.length then some (.agg ((cs.drop off).take (P.cellsOf t)))else none)
  else cs[off]?
 else none
def Qlm (place:Nat→Option (Nat×Nat)) (cells:List PV):List (Nat×PV)→Option (List PV)
 | []=>some cells
 |(i,v)::rest=>match place i with
  |none=>none
  |some (off,size)=>if v.cells.length=size∧off+size≤cells.length∧v.cells.all PV.okCell=true then Qlm place (cells.take off++v.cells++cells.drop (off+size)) rest else none
def Qad (P:Program) (t:TypeId) (i:Nat):Option (Nat×Nat):=match P.underlying t with
 |some (.struct fs)=>match fs[i]? with
  |some f=>match P.info? f.type with
   |some j=>some (f.offset,j.size)
   |none=>none
  |none=>none
 |some (.array _ e)=>match P.info? e with
  |some j=>some (i*j.size,j.size)
  |none=>none
 |_=>none
def buildable (P:Program) (t:TypeId):Bool:=match P.underlying t with
 |some (.struct fs)=>fs.all fun f=>(P.info? f.type).isSome
 |some (.array _ e)=>(P.info? e).isSome
 |_=>false
def Qbn (vs:List PV):Bool:=vs.all PV.okCell
def Qln (op:BinOp) (x y:Int):Option Bool:=
 match op with
 | .eql=>some (x==y)
 | .neq=>some (x != y)
 | .lss=>some (decide (x<y))
 | .leq=>some (decide (x≤y))
 | .gtr=>some (decide (x>y))
 | .geq=>some (decide (x≥y))
 |_=>none
def Qet (op:BinOp) (k:IntKind) (x y:Int):Option PV:=
 match op with
 | .add=>some (.int k (k.wrap (x+y)))
 | .sub=>some (.int k (k.wrap (x-y)))
 | .mul=>some (.int k (k.wrap (x*y)))
 | .quo=>if y=0 then none else some (.int k (k.wrap (x.tdiv y)))
 | .rem=>if y=0 then none else some (.int k (x.tmod y))
 | .and=>some (.int k (k.wrap (BitVec.ofInt k.bits x &&& BitVec.ofInt k.bits y).toNat))
 | .or=>some (.int k (k.wrap (BitVec.ofInt k.bits x ||| BitVec.ofInt k.bits y).toNat))
 | .xor=>some (.int k (k.wrap (BitVec.ofInt k.bits x ^^^ BitVec.ofInt k.bits y).toNat))
 | .andNot=>some (.int k (k.wrap (BitVec.ofInt k.bits x &&& ~~~BitVec.ofInt k.bits y).toNat))
 | .shl| .shr=>none
 |_=>(Qln op x y).map .bool
def Qh8 (op:BinOp) (k:IntKind) (x y:Int):Option PV:=
 if y<0 then none else
 match op with
 | .shl=>some (.int k (k.wrap (x*2^(min y.toNat k.bits))))
 | .shr=>some (.int k (x.fdiv (2^(min y.toNat k.bits))))
 |_=>none
def Qz6 (op:BinOp) (x y:ByteArray):Option PV:=
 match op with
 | .add=>if((x.size+y.size:Nat):Int)>IntKind.i64.max then none else some (.str (x++y))
 | .eql=>some (.bool (x.toList==y.toList))
 | .neq=>some (.bool !(x.toList==y.toList))
 | .lss=>some (.bool (Op.bytesLess x.toList y.toList))
 | .leq=>some (.bool (Op.bytesLess x.toList y.toList||x.toList==y.toList))
 | .gtr=>some (.bool !(Op.bytesLess x.toList y.toList||x.toList==y.toList))
 | .geq=>some (.bool !(Op.bytesLess x.toList y.toList))
 |_=>none
def Qcw (P:Program) (t:TypeId):Option (List Nat):=if P.eqGuardType P.depth t=true then none else match P.underlying t with
 |some (.struct _)=>Qjb P Op.maxDepth t
 |_=>none
def Qj7 (op:BinOp) (t:TypeId) (P:Program) (b:Bool):Option PV:=match P.underlying t,op with
 |some (.slice _),.eql=>some (.bool b)
 |some (.slice _),.neq=>some (.bool !b)
 |_,_=>none
def Qb8 (op:BinOp) (t:TypeId) (P:Program) (x y:PV):Option PV:=
 match x,y with
 | .int k a,.int k' b=>match op with
  | .shl| .shr=>Qh8 op k a b
  |_=>if k=k' then Qet op k a b else none
 | .str a,.str b=>Qz6 op a b
 | .bool a,.bool b=>match P.underlying t,op with
  |some .bool,.eql=>some (.bool (a==b))
  |some .bool,.neq=>some (.bool !(a==b))
  |_,_=>none
 | .agg xs,.agg ys=>match Qcw P t with
  |some sh=>match op,Qbr sh xs ys with
   | .eql,some b=>some (.bool b)
   | .neq,some b=>some (.bool !b)
   |_,_=>none
  |none=>none
 | .nilS,.nilS=>Qj7 op t P true
 | .slc es,.nilS=>match es.isEmpty with
  |true=>none
  |false=>Qj7 op t P false
 | .bs _ _ _ len,.nilS=>match Nat.beq len 0 with
  |true=>none
  |false=>Qj7 op t P false
 |_,_=>none
def unPV (op:UnOp) (x:PV):Option PV:=
 match op,x with
 | .neg,.int k n=>some (.int k (k.wrap (0-n)))
 | .xor,.int k n=>some (.int k (k.wrap (BitVec.ofInt k.bits (if k.signed then -1 else k.max) ^^^ BitVec.ofInt k.bits n).toNat))
 | .not,.bool b=>some (.bool !b)
 |_,_=>none
def Qod (P:Program) (s d:TypeId) (x:PV):Option PV:=
 match P.underlying s,P.underlying d,x with
 |some (.int _),some (.int k),.int _ n=>some (.int k (k.wrap n))
 |_,_,_=>none
def Qes:List PV→Option (List UInt8)
 | []=>some []
 | .int .u8 n::xs=>match Qes xs with
  |some bs=>some (UInt8.ofNat n.toNat::bs)
  |none=>none
 |_=>none
def Qxo (P:Program) (s d:TypeId):Bool:=match P.underlying d,P.underlying s with
 |some .string,some (.slice e)=>match P.underlying e with
  |some (.int .u8)=>true
  |_=>false
 |_,_=>false
def Qsg (P:Program) (s d:TypeId) (x:PV):M Out:=match Qod P s d x with
 |some v=> .pure (.done v [])
 |none=> .bind (.ok (Qxo P s d)) fun _=> .bind (esc0 x) fun y=>match y.1 with
  | .slc xs=> .bind (.ofOpt (Qes xs)) fun bs=> .pure (.done (.str ⟨bs.toArray⟩) [])
  |_=> .fail
def Qbi (P:Program) (t:TypeId):PV→Option PV
 | .str s=>match P.underlying t with|some .string=>some (.int .i64 s.size)|_=>none
 | .nilS=>match P.underlying t with|some (.slice _)=>some (.int .i64 0)|_=>none
 | .slc es=>match P.underlying t with|some (.slice _)=>some (.int .i64 es.length)|_=>none
 | .bs _ _ _ len=>match P.underlying t with|some (.slice _)=>some (.int .i64 len)|_=>none
 |_=>match P.underlying t with|some (.array n _)=>some (.int .i64 n)|_=>none
def Qc9 (len:Nat) (lo hi:Option PV):Option (Nat×Nat):=
 match(match hi with|some (.int _ h)=>some h|none=>some (len:Int)|_=>none),(match lo with|some (.int _ l)=>some l|none=>some 0|_=>none)with
 |some h,some l=>if 0≤l∧l≤h∧h≤len then some (l.toNat,h.toNat)else none
 |_,_=>none
def Qc2 (P:Program) (t:TypeId) (x:PV) (lo hi:Option PV):M Out:=
 match x with
 | .str s=> .bind (.ok (match P.underlying t with|some .string=>true|_=>false)) fun _=> .bind (.ofOpt (Qc9 s.size lo hi)) fun r=> .pure (.done (.str (s.extract r.1 r.2)) [])
 | .nilS=> .bind (.ofOpt (Qaz P ((Qb3 P t).getD 0))) fun _=> .bind (.ok (Qb3 P t).isSome) fun _=> .bind (.ofOpt (Qc9 0 lo hi)) fun _=> .pure (.done .nilS [])
 | .slc es=> .bind (.ofOpt (Qb3 P t)) fun e=> .bind (.ofOpt (Qaz P e)) fun q=> .bind (.ofOpt (Qc9 es.length lo hi)) fun r=>
   .bind (.ok (es.all fun x=>x.cells.length==q.1)) fun _=> .pure (.done (.slc ((es.take r.2).drop r.1)) [])
 | .bs b esz off len=> .bind (.ofOpt (Qb3 P t)) fun e=> .bind (.ofOpt (Qaz P e)) fun q=> .bind (.ok (q.1==esz)) fun _=> .bind (.ofOpt (Qc9 len lo hi)) fun r=>
   match lo with
   |none=> .pure (.done (.bs b esz off r.2) [])
   |some _=> .pure (.done (if r.1<r.2 then .bs b esz (off+r.1) (r.2-r.1)else .slc []) [])
 |_=> .fail
def Qir (mx:Bool):PV→List PV→Option PV
 |x,[]=>some x
 | .int k a,.int k' b::rest=>if k=k' then Qir mx (.int k (if mx then(if b>a then b else a)else(if b<a then b else a))) rest else none
 |_,_=>none
def Qef (P:Program) (id:Nat) (T T2:TypeId) (s x:PV):M Out:=
 .bind (.ok (T==T2)) fun _=> .bind (.ofOpt (Qb3 P T)) fun E=> .bind (.ofOpt (Qaz P E)) fun q=> .bind (.ofOpt (Qa8 P E)) fun z=> .bind (.ok (z.cells.length==q.1&&0<q.1)) fun _=>
 .bind (.hard id) fun n=> .bind (.ok n.isNone) fun _=> .bind (esc0 x) fun y=>match y.1 with
 | .slc xs=> .bind (.ok (xs.all fun e=>e.cells.length==q.1&&Qbn e.cells)) fun _=>match s with
  | .nilS=> .bind (.ok (xs.length*q.2≤140737488355328&&xs.length≤maxLen)) fun _=>
    .pure (.done (.bs id q.1 0 xs.length) (y.2++[.new id {els:=xs,esz:=q.1,ety:=E,fro:=0,live:=true,arr:=true}]))
  | .bs b esz off len=> .bind (.hard b) fun Bo=> .bind (.ofOpt Bo) fun B=>
    .bind (.ok ((y.2.all fun e=>e.id != b)&&B.live&&B.arr&&off==0&&len==B.els.length&&esz==q.1&&B.esz==q.1&&B.ety==E&&Qbn (B.els.flatMap PV.cells)&&(B.els.length+xs.length)*q.2≤140737488355328&&B.els.length+xs.length≤maxLen)) fun _=>
    .pure (.done (.bs id q.1 0 (B.els.length+xs.length)) (y.2++[.kill b,.new id {els:=B.els++xs,esz:=q.1,ety:=E,fro:=B.fro,live:=true,arr:=true}]))
  |_=> .fail
 |_=> .fail
def Qj8 (P:Program) (id:Nat) (T n:Nat) (parts:Array (Nat×Operand)) (vs:List PV):M Out:=
 .bind (.ok (parts.toList.map (·.1)==List.range n&&n≤1000)) fun _=> .bind (.ofOpt (Qb3 P T)) fun E=> .bind (.ofOpt (Qaz P E)) fun q=> .bind (.ofOpt (Qa8 P E)) fun z=> .bind (.hard id) fun b=>
   .bind (.ok (b.isNone&&z.cells.length==q.1&&vs.length==n&&(vs.all fun e=>e.cells.length==q.1&&Qbn e.cells)&&0<q.1&&q.1≤1000)) fun _=>
   .pure (.done (.bs id q.1 0 n) [.new id {els:=vs,esz:=q.1,ety:=E,fro:=0,live:=true,arr:=false}])
def appendD (P:Program) (id:Nat) (T T2:TypeId) (s x:PV):M Out:=
 .bind (.ok (T==T2)) fun _=> .bind (.ofOpt (Qb3 P T)) fun E=> .bind (.ofOpt (Qaz P E)) fun q=> .bind (.ofOpt (Qa8 P E)) fun z=> .bind (.ok (z.cells.length==q.1&&0<q.1)) fun _=>
 .bind (.hard id) fun n=> .bind (.ok n.isNone) fun _=>match x with
 | .bs b2 esz2 off2 len2=> .bind (.soft b2) fun B2=> .bind (.ok (B2.esz==esz2&&esz2==q.1&&off2+len2≤B2.els.length&&0<len2&&Qbn (((B2.els.drop off2).take len2).flatMap PV.cells))) fun _=>match s with
  | .nilS=> .bind (.ok (len2*q.2≤140737488355328&&len2≤maxLen)) fun _=>
    .pure (.done (.bs id q.1 0 len2) [.new id {els:=(B2.els.drop off2).take len2,esz:=q.1,ety:=E,fro:=0,live:=true,arr:=false}])
  | .bs b esz off len=> .bind (.hard b) fun Bo=> .bind (.ofOpt Bo) fun B=>
    .bind (.ok (B.live&& !B.arr&&off==0&&len==B.els.length&&0<len&&esz==q.1&&B.esz==q.1&&B.ety==E&&Qbn (B.els.flatMap PV.cells)&&(len+len2)*q.2≤140737488355328&&len+len2≤maxLen)) fun _=>
    .pure (.done (.bs id q.1 0 (len+len2)) [.kill b,.new id {els:=B.els++(B2.els.drop off2).take len2,esz:=q.1,ety:=E,fro:=B.fro,live:=true,arr:=false}])
  |_=> .fail
 |_=> .fail
def newVar (id:Nat) (T:TypeId) (v:PV):M Out:=
 .bind (.hard id) fun n=> .bind (.ok (n.isNone&&Qbn v.cells&&0<v.cells.length)) fun _=>
  .pure (.done (.bp id v.cells.length 0 0) [.new id {els:=[v],esz:=v.cells.length,ety:=T,fro:=0,live:=true,arr:=false}])
def Box.over (B:Box) (off:Nat) (xs:List PV):Box:={B with els:=B.els.take off++xs++B.els.drop (off+xs.length)}
def Qj9 (P:Program) (t:TypeId) (d x:PV):M Out:=
 .bind (.ofOpt (Qb3 P t)) fun E=> .bind (.ofOpt (Qaz P E)) fun q=> .bind (esc0 x) fun y=>match y.1,d with
 | .slc xs,.bs b esz off len=> .bind (.hard b) fun Bo=> .bind (.ofOpt Bo) fun B=>
   .bind (.ok (xs.all fun e=>e.cells.length==q.1&&e.cells.all flatc)) fun _=>
   .bind (.ok (B.live&&B.arr&&B.esz==esz&&q.1==esz&&Nat.ble B.fro off&&Nat.ble (off+min xs.length len) B.els.length)) fun _=>
   .pure (.done (.int .i64 (min xs.length len:Nat)) [.new b (B.over off (xs.take (min xs.length len)))])
 |_,_=> .fail
def Qg1 (P:Program) (t:TypeId) (d:PV):M Out:=
 .bind (.ofOpt (Qb3 P t)) fun E=> .bind (.ofOpt (Qaz P E)) fun q=> .bind (.ofOpt (Qa8 P E)) fun z=>match d with
 | .bs b esz off len=> .bind (.hard b) fun Bo=> .bind (.ofOpt Bo) fun B=>
   .bind (.ok (z.cells.length==q.1&&z.cells.all flatc)) fun _=>
   .bind (.ok (B.live&&B.arr&&B.esz==esz&&q.1==esz&&Nat.ble B.fro off&&Nat.ble (off+len) B.els.length)) fun _=>
   .pure (.done (.tup []) [.new b (B.over off (List.replicate len z))])
 |_=> .fail
def Qbb (P:Program) (tb:Tab) (id:Nat) (o:Op) (vs:List PV):M Out:=
 match o,vs with
 | .move _,[x]=> .pure (.done x [])
 | .assign _,[x]=> .pure (.done x [])
 | .nilCheck _,[x]=>match x with
  | .bp _ _ _ _| .rp _| .fn _ _ _=> .pure (.done x [])
  |_=> .fail
 | .pick _ _ _,[.bool c,a,b]=> .pure (.done (if c then a else b) [])
 | .alloc T,[]=> .bind (.ofOpt (Qa8 P T)) fun z=>newVar id T z
 | .box T _,[x]=>newVar id T x
 | .build T parts,vs=> .bind (.ok (buildable P T)) fun _=> .bind (.ofOpt (Qqb P T)) fun z=> .bind (.ofOpt (Qlm (Qad P T) z.cells ((parts.toList.map (·.1)).zip vs))) fun cs=> .pure (.done (.agg cs) [])
 | .buildSlice T n parts,vs=>match lkp tb id with
  |some _=>Qj8 P id T n parts vs
  |none=> .bind (.ok (parts.toList.map (·.1)==List.range n&&n≤1000)) fun _=> .bind (.ofOpt (Qb3 P T)) fun E=> .bind (.ofOpt (Qaz P E)) fun q=>
   .bind (.ofOpt (Qa8 P E)) fun z=> .bind (.hard id) fun b=> .bind (Qg0 vs) fun ys=>
   .bind (.ok (b.isNone&&z.cells.length==q.1&&ys.1.length==n&&(ys.1.all fun e=>e.cells.length==q.1&&Qbn e.cells)&&0<q.1&&q.1≤1000)) fun _=>
   .pure (.done (.bs id q.1 0 n) (ys.2++[.new id {els:=ys.1,esz:=q.1,ety:=E,fro:=0,live:=true,arr:=true}]))
 | .load T _,[.bp b esz i off]=> .bind (.soft b) fun B=> .bind (.ok (B.esz==esz)) fun _=> .bind (.ofOpt B.els[i]?) fun e=> .bind (.ofOpt (Qdw P T e.cells off)) fun v=> .pure (.done v [])
 | .load T _,[.rp cs]=> .bind (.ofOpt (Qdw P T cs 0)) fun v=> .pure (.done v [])
 | .store T _ _,[.bp b esz i off,v]=> .bind (.hard b) fun Bo=> .bind (.ofOpt Bo) fun B=> .bind (.ofOpt B.els[i]?) fun e=>
   .bind (.ok (B.esz==esz&&B.live&&B.fro≤i&&(P.info? T).isSome&&v.cells.length==P.cellsOf T&&Qbn v.cells&&off+v.cells.length≤e.cells.length)) fun _=>
   if B.arr then .bind (escL v.cells) fun y=> .bind (.ok (Qbn y.1&&y.2.all fun e=>e.id != b)) fun _=> .pure (.done (.tup []) (y.2++[.wr b i (e.putCells off y.1)]))
   else .pure (.done (.tup []) [.wr b i (e.putCells off v.cells)])
 | .binOp op t _ _ _,[x,y]=> .bind (.ofOpt (Qb8 op t P x y)) fun v=> .pure (.done v [])
 | .unOp op _ _,[x]=> .bind (.ofOpt (unPV op x)) fun v=> .pure (.done v [])
 | .convert s d _,[x]=>Qsg P s d x
 | .makeFunc (.func f) first cap,vs=> .pure (.done (.fn f (vs.take first.size) (vs.drop first.size)) [])
 | .makeSlice T _ _,[.int _ l,.int _ c]=> .bind (.ofOpt (Qb3 P T)) fun E=> .bind (.ofOpt (Qaz P E)) fun q=> .bind (.ofOpt (Qa8 P E)) fun z=> .bind (.hard id) fun b=>
   .bind (.ok (b.isNone&&z.cells.length==q.1&&Qbn z.cells&&0<q.1&&decide (0≤l)&&decide (l≤c)&&decide ((q.2:Int)*c≤281474976710656)&&decide (c≤9223372036854775807))) fun _=>
   .pure (.done (.bs id q.1 0 l.toNat) [.new id {els:=List.replicate l.toNat z,esz:=q.1,ety:=E,fro:=0,live:=true,arr:=true}])
 | .slice T _ none none none,[x]=>Qc2 P T x none none
 | .slice T _ (some _) none none,[x,l]=>Qc2 P T x (some l) none
 | .slice T _ none (some _) none,[x,h]=>Qc2 P T x none (some h)
 | .slice T _ (some _) (some _) none,[x,l,h]=>Qc2 P T x (some l) (some h)
 | .fieldAddr T _ f,[.bp b esz i off]=> .bind (.ofOpt (Qa4 P T f)) fun q=> .pure (.done (.bp b esz i (off+q.1)) [])
 | .fieldAddr T _ f,[.rp cs]=> .bind (.ofOpt (Qa4 P T f)) fun q=> .pure (.done (.rp (cs.drop q.1)) [])
 | .field T _ f,[.agg cs]=> .bind (.ofOpt (Qa4 P T f)) fun q=> .bind (.ofOpt (Qdw P q.2.1 cs q.1)) fun v=> .pure (.done v [])
 | .indexAddr T _ _,[x,.int _ i]=>match x with
  | .bp b esz k off=> .bind (.ofOpt (Qgf P T)) fun q=> .bind (.ofOpt (Qaz P q.2)) fun s=> .bind (.ok (decide (0≤i)&&decide (i<q.1)&&decide (1<q.1))) fun _=> .pure (.done (.bp b esz k (off+i.toNat*s.1)) [])
  | .rp cs=> .bind (.ofOpt (Qgf P T)) fun q=> .bind (.ofOpt (Qaz P q.2)) fun s=> .bind (.ok (decide (0≤i)&&decide (i<q.1)&&decide (1<q.1))) fun _=> .pure (.done (.rp (cs.drop (i.toNat*s.1))) [])
  | .bs b esz off len=> .bind (.ofOpt (Qb3 P T)) fun E=> .bind (.ofOpt (Qaz P E)) fun s=> .bind (.ok (s.1==esz&&decide (0≤i)&&decide (i<len))) fun _=> .pure (.done (.bp b esz (off+i.toNat) 0) [])
  | .slc es=> .bind (.ofOpt (Qb3 P T)) fun E=> .bind (.ofOpt (Qaz P E)) fun s=> .bind (.ok (decide (0≤i))) fun _=> .bind (.ofOpt es[i.toNat]?) fun e=> .bind (.ok (e.cells.length==s.1)) fun _=> .pure (.done (.rp e.cells) [])
  |_=> .fail
 | .index T _ _,[x,.int _ i]=>match x with
  | .agg cs=> .bind (.ofOpt (Qgf P T)) fun q=> .bind (.ofOpt (Qaz P q.2)) fun s=> .bind (.ok (decide (0≤i)&&decide (i<q.1))) fun _=> .bind (.ofOpt (Qdw P q.2 cs (i.toNat*s.1))) fun v=> .pure (.done v [])
  | .str s=> .bind (.ok (match P.underlying T with|some .string=>decide (0≤i)|_=>false)) fun _=> .bind (.ofOpt s[i.toNat]?) fun c=> .pure (.done (.int .u8 c.toNat) [])
  |_=> .fail
 | .extract _ i,[.tup vs]=> .bind (.ofOpt vs[i]?) fun v=> .pure (.done v [])
 | .call ⟨.builtin .len,_,ts⟩,[x]=> .bind (.ofOpt ts[0]?) fun t=> .bind (.ofOpt (Qbi P t x)) fun v=> .pure (.done v [])
 | .call ⟨.builtin .append,_,ts⟩,[s,x]=> .bind (.ofOpt ts[0]?) fun t=> .bind (.ofOpt ts[1]?) fun t2=> .bind (.ok (ts.size==2)) fun _=>match lkp tb id with
  |some _=>appendD P id t t2 s x
  |none=>Qef P id t t2 s x
 | .call ⟨.builtin .max,_,_⟩,x::xs=> .bind (.ofOpt (Qir true x xs)) fun v=> .pure (.done v [])
 | .call ⟨.builtin .min,_,_⟩,x::xs=> .bind (.ofOpt (Qir false x xs)) fun v=> .pure (.done v [])
 | .call ⟨.value _,_,_⟩,.fn f first cap::args=>match lkp tb id with
  |none=> .bind (Qgg first) fun x=> .bind (Qg0 args) fun y=> .bind (Qgg cap) fun z=> .pure (.call f (x.1++y.1++z.1) (x.2++y.2++z.2))
  |some (θ,ν)=>Qee θ ν f (first++args++cap)
 | .call ⟨.value _,_,_⟩,.yld n stop::args=> .bind (.hard YID) fun _=> .bind (Qg0 args) fun y=> .pure (.yield n stop y.1 y.2)
 | .call ⟨.builtin .copy,_,ts⟩,[d,x]=> .bind (.ofOpt ts[0]?) fun t=>Qj9 P t d x
 | .call ⟨.builtin .clear,_,ts⟩,[d]=> .bind (.ofOpt ts[0]?) fun t=>Qg1 P t d
 |_,_=> .fail
def St.ev (st:St):Operand→Option PV
 | .tmp t=>st.var t
 | .const v=>Qgz v
 | .func f=>some (.fn f [] [])
 | .global _=>none
def St.evs (st:St):List Operand→Option (List PV)
 | []=>some []
 |x::xs=>match st.ev x with
  |none=>none
  |some v=>match st.evs xs with
   |none=>none
   |some vs=>some (v::vs)
end Go.Vl

namespace Go.Vl
open Go.RowKit
theorem M.bind_some {α β:Type} {m:M α} {f:α→M β} {bx:Bx} {c:β} {l:Acc} (h:M.bind m f bx=some (c,l)):
  ∃a l1 l2,m bx=some (a,l1)∧f a bx=some (c,l2)∧l=l1++l2:=by
 unfold M.bind at h;split at h
 ·cases h
 ·rename_i a l1 e1;split at h
  ·cases h
  ·rename_i c' l2 e2;cases h;exact⟨a,l1,l2,e1,e2,rfl⟩
theorem M.pure_some {α:Type} {a c:α} {bx:Bx} {l:Acc} (h:M.pure a bx=some (c,l)):c=a∧l=[]:=by
 unfold M.pure at h;cases h;exact⟨rfl,rfl⟩
theorem M.ofOpt_some {α:Type} {x:Option α} {c:α} {bx:Bx} {l:Acc} (h:M.ofOpt x bx=some (c,l)):x=some c∧l=[]:=by
 unfold M.ofOpt at h;cases x<;>simp at h;obtain⟨rfl,rfl⟩:=h;exact⟨rfl,rfl⟩
theorem M.ok_some {c:Bool} {u:Unit} {bx:Bx} {l:Acc} (h:M.ok c bx=some (u,l)):c=true∧l=[]:=by
 unfold M.ok at h;cases c<;>simp at h;exact⟨rfl,h⟩
theorem M.soft_some {b:Nat} {S:SB} {bx:Bx} {l:Acc} (h:M.soft b bx=some (S,l)): ∃B,bx b=some B∧S=B.soft∧l=[(b,false)]:=by
 unfold M.soft at h;split at h
 ·rename_i B e;cases h;exact⟨B,e,rfl,rfl⟩
 ·cases h
theorem M.hard_some {b:Nat} {x:Option Box} {bx:Bx} {l:Acc} (h:M.hard b bx=some (x,l)):x=bx b∧l=[(b,true)]:=by
 unfold M.hard at h;cases h;exact⟨rfl,rfl⟩
section
variable {w:World} {im:Im} {ρ:Rho}
theorem LR.agg_inv {cs:List PV} {u:Value} (h:LR w im ρ (.agg cs) u): ∃vs:List Value,u= .agg vs.toArray∧LRL w im ρ cs vs:=by
 cases h with
 |ext _ _ h=>cases h with|agg _ vs h=>exact⟨vs,rfl,h.toLRL⟩
 |agg _ vs h=>exact⟨vs,rfl,h⟩
theorem LR.tup_inv {cs:List PV} {u:Value} (h:LR w im ρ (.tup cs) u): ∃vs:List Value,u= .tuple vs.toArray∧LRL w im ρ cs vs:=by
 cases h with
 |ext _ _ h=>cases h with|tup _ vs h=>exact⟨vs,rfl,h.toLRL⟩
 |tup _ vs h=>exact⟨vs,rfl,h⟩
theorem LR.fn_inv {f:FuncId} {first cap:List PV} {u:Value} (h:LR w im ρ (.fn f first cap) u):
  ∃a b:List Value,u= .func (.func f) a.toArray b.toArray∧LRL w im ρ first a∧LRL w im ρ cap b:=by
 cases h with
 |ext _ _ h=>cases h with|fn _ _ _ a b h1 h2=>exact⟨a,b,rfl,h1.toLRL,h2.toLRL⟩
 |fn _ _ _ a b h1 h2=>exact⟨a,b,rfl,h1,h2⟩
theorem LR.bp_inv {b esz i off:Nat} {u:Value} (h:LR w im ρ (.bp b esz i off) u): ∃g,ρ b=some (some g)∧u= .pointer (some ⟨g,i*esz+off,none⟩):=by
 cases h with
 |ext _ _ h=>cases h
 |bp _ _ _ _ g o h ho=>subst ho;exact⟨g,h,rfl⟩
theorem LR.rp_inv {cs:List PV} {u:Value} (h:LR w im ρ (.rp cs) u):Rep w im (.rp cs) u:=by
 cases h with|ext _ _ h=>exact h
theorem LR.slc_inv {cs:List PV} {u:Value} (h:LR w im ρ (.slc cs) u):Rep w im (.slc cs) u:=by
 cases h with|ext _ _ h=>exact h
theorem LR.nilS_inv {u:Value} (h:LR w im ρ .nilS u):u= .slice none 0 0:=by
 cases h with|ext _ _ h=>cases h;rfl
theorem LR.int_inv {k:IntKind} {n:Int} {u:Value} (h:LR w im ρ (.int k n) u):u= .int k n:=by
 cases h with|ext _ _ h=>cases h;rfl
theorem LR.yld_inv {l s:Nat} {u:Value} (h:LR w im ρ (.yld l s) u):u= .func (.yield l) #[] #[]:=by
 cases h with|ext _ _ h=>cases h;rfl
theorem LR.bool_inv {b:Bool} {u:Value} (h:LR w im ρ (.bool b) u):u= .bool b:=by
 cases h with|ext _ _ h=>cases h;rfl
theorem LR.str_inv {s:ByteArray} {u:Value} (h:LR w im ρ (.str s) u):u= .string s:=by
 cases h with|ext _ _ h=>cases h;rfl
theorem LRL.one_inv {v:PV} {us:List Value} (h:LRL w im ρ [v] us): ∃u,us=[u]∧LR w im ρ v u:=by
 cases h with|cons _ u _ us h t=>cases t;exact⟨u,rfl,h⟩
theorem LRL.cons_inv {v:PV} {vs:List PV} {us:List Value} (h:LRL w im ρ (v::vs) us): ∃u us',us=u::us'∧LR w im ρ v u∧LRL w im ρ vs us':=by
 cases h with|cons _ u _ us h t=>exact⟨u,us,rfl,h,t⟩
theorem LRL.two_inv {v v2:PV} {us:List Value} (h:LRL w im ρ [v,v2] us): ∃u u2,us=[u,u2]∧LR w im ρ v u∧LR w im ρ v2 u2:=by
 obtain⟨u,us',rfl,h1,h2⟩:=h.cons_inv;obtain⟨u2,rfl,h3⟩:=h2.one_inv;exact⟨u,u2,rfl,h1,h3⟩
theorem LRL.nil_inv {us:List Value} (h:LRL w im ρ [] us):us=[]:=by cases h;rfl
end
section
variable {P:Program} {w:World}
theorem Qh9 {t:TypeId} (h:(P.underlying t).isSome=true):(isAgg t).run P w= .ok (Qb5 P t) w:=by
 cases hd:P.underlying t with
 |none=>rw [hd]at h;cases h
 |some d=>cases d<;>simp [isAgg,run_underlying hd,Qb5,hd]
theorem Qbg {t:TypeId} {i:TypeInfo} (h:P.info? t=some i):(sizeOf t).run P w= .ok i.size w:=by simp [sizeOf,typeInfo,h]
theorem Qhk {t:TypeId} {i:TypeInfo} (h:P.info? t=some i):P.cellsOf t=i.size:=by simp [Program.cellsOf,h]
theorem Qz7 {t:TypeId} (h:tyOk P t=true):(P.underlying t).isSome=true∧ ∃i,P.info? t=some i:=by
 simp only [tyOk,Bool.and_eq_true]at h;exact⟨h.1,Option.isSome_iff_exists.1 h.2⟩
theorem Qz8 {im:Im} {ρ:Rho} {t:TypeId} {cs:List PV} {us:List Value} {off:Nat} {v:PV} (hr:LRL w im ρ cs us) (hp:Qdw P t cs off=some v):
  ∃u,(part t us.toArray off).run P w= .ok u w∧LR w im ρ v u:=by
 unfold Qdw at hp;split at hp
 ·rename_i hok;obtain⟨h1,i,h2⟩:=Qz7 hok;split at hp
  ·rename_i ha;split at hp
   ·rename_i hlen;cases hp;refine⟨.agg ((us.drop off).take (P.cellsOf t)).toArray,?_,.agg _ _ ((hr.drop off).take _)⟩;simp only [part,Sem.run_bind,Qh9 h1,Result.andThen_ok,ha,if_true,Qbg h2,Sem.run_pure];congr 2;apply Array.ext';rw [Qhk h2];simp [List.extract_eq_take_drop]
   ·cases hp
  ·rename_i ha;obtain⟨u,hu,hru⟩:=hr.get off v hp;refine⟨u,?_,hru⟩;simp [part,Qh9 h1,ha,hu]
 ·cases hp
theorem Qmw {im:Im} {ρ:Rho} {t:TypeId} {cs:List PV} {us:List Value} {g p off:Nat} {v:PV} (hr:LRL w im ρ cs us)
  (hc: ∀j,j<us.length→w.cell? ⟨g,p+j,none⟩=us[j]?) (hp:Qdw P t cs off=some v):
  ∃u,(loadVar t ⟨g,p+off,none⟩).run P w= .ok u w∧LR w im ρ v u:=by
 unfold Qdw at hp;split at hp
 ·rename_i hok;obtain⟨h1,i,h2⟩:=Qz7 hok;split at hp
  ·rename_i ha;split at hp
   ·rename_i hlen;cases hp;have hl:=hr.length;have hn:((us.drop off).take (P.cellsOf t)).length=i.size:=by rw [←Qhk h2];simp;omega
    have hrun:=run_loadCells_list (P:=P) w ⟨g,p+off,none⟩ ((us.drop off).take (P.cellsOf t)) (by
     intro j u hu;have hj:j<((us.drop off).take (P.cellsOf t)).length:=(List.getElem?_eq_some_iff.1 hu).1;have e:(⟨g,p+off,none⟩:Addr).add j=⟨g,p+(off+j),none⟩:=by unfold Addr.add;split<;>simp_all;omega
     rw [e,hc _ (by simp at hj;omega),←hu];simp only [List.getElem?_take,List.getElem?_drop];rw [if_pos (by simp at hj;omega)])
    rw [hn]at hrun;refine⟨.agg ((us.drop off).take (P.cellsOf t)).toArray,?_,.agg _ _ ((hr.drop off).take _)⟩;simp only [loadVar,Sem.run_bind,Qh9 h1,Result.andThen_ok,ha,if_true,Qbg h2,hrun,Sem.run_pure]
   ·cases hp
  ·rename_i ha;obtain⟨u,hu,hru⟩:=hr.get off v hp;refine⟨u,?_,hru⟩;have hj:off<us.length:=(List.getElem?_eq_some_iff.1 hu).1;simp [loadVar,Qh9 h1,ha,hc off hj,hu]
 ·cases hp
mutual
theorem Qka {im:Im} {v:Value} {x:PV} (h:Qfh v=some x):Rep w im x v:=by
 unfold Qfh at h;split at h<;>try cases h
 ·exact .bool _
 ·exact .int _ _
 ·exact .str _
 ·exact .nilS
 ·exact .nilF
 ·exact .nilI
 ·rename_i f a b;split at h
  ·rename_i hab;cases h;obtain⟨ha,hb⟩:=hab;have ea:a=[].toArray:=by simpa using ha
   have eb:b=[].toArray:=by simpa using hb
   rw [ea,eb];exact .fn f [] [] [] [] .nil .nil
  ·cases h
end
theorem Qis {im:Im}: ∀{vs:List Value} {xs:List PV},Qcp vs=some xs→RepL w im xs vs
 | [],xs,h=>by simp [Qcp]at h;subst h;exact .nil
 |v::vs,xs,h=>by
  unfold Qcp at h;split at h
  ·rename_i x ys e1 e2;cases h;exact .cons _ _ _ _ (Qka e1) (Qis e2)
  ·cases h
theorem Qdj {im:Im} {v:Value} {x:PV} (h:Qgz v=some x):Rep w im x v:=by
 unfold Qgz at h;split at h
 ·rename_i cs;cases e:Qcp cs.toList with
  |none=>rw [e]at h;cases h
  |some xs=>rw [e]at h;cases h;simpa using Rep.agg xs cs.toList (Qis e)
 ·rename_i cs;split at h
  ·rename_i h0;cases h;have:cs=[].toArray:=by simpa using h0
   rw [this];exact .tup [] [] .nil
  ·cases h
 ·exact Qka h
theorem Qz9 {C:Ctx} {st:St} {a:Act} {w:World} {ρ:Rho} {im:Im} (h:Rel' C st a w ρ im) {x:Operand} {v:PV} (hv:st.ev x=some v):LR w im ρ v (a.eval x):=by
 cases x with
 |tmp t=>exact h.var t v hv
 |const c=>exact .ext _ _ (Qdj hv)
 |func f=>
  simp only [St.ev,Option.some.injEq]at hv;subst hv;exact .ext _ _ (.fn f [] [] [] [] .nil .nil)
 |global g=>cases hv
theorem Qoe {C:Ctx} {st:St} {a:Act} {w:World} {ρ:Rho} {im:Im} (h:Rel' C st a w ρ im): ∀{xs:List Operand} {vs:List PV},st.evs xs=some vs→LRL w im ρ vs (xs.map a.eval)
 | [],vs,e=>by simp [St.evs]at e;subst e;exact .nil
 |x::xs,vs,e=>by
  unfold St.evs at e;split at e
  ·cases e
  ·rename_i v e1;split at e
   ·cases e
   ·rename_i us e2;cases e;exact .cons _ _ _ _ (Qz9 h e1) (Qoe h e2)
end
section
variable {P:Program} {w:World} {im:Im} {ρ:Rho} {a:Act} {o:Oper}
theorem Qcg {t e:TypeId} (h:Qb3 P t=some e):P.underlying t=some (.slice e):=by
 unfold Qb3 at h;split at h
 ·rename_i x hx;cases h;exact hx
 ·cases h
theorem Qof {t:TypeId} {q:Nat×TypeId} (h:Qgf P t=some q):P.underlying t=some (.array q.1 q.2):=by
 unfold Qgf at h;split at h
 ·rename_i n x hx;cases h;exact hx
 ·cases h
theorem Qbz {t:TypeId} {q:Nat×Nat} (h:Qaz P t=some q): ∃i,P.info? t=some i∧i.size=q.1∧i.bytes=q.2:=by
 unfold Qaz at h;cases hi:P.info? t with
 |none=>rw [hi]at h;cases h
 |some i=>rw [hi]at h;cases h;exact⟨i,rfl,rfl,rfl⟩
theorem Qog {t:TypeId} {f:Nat} {q:Nat×TypeId×Nat} (h:Qa4 P t f=some q):
  ∃fs x i,P.underlying t=some (.struct fs)∧fs[f]? =some x∧P.info? x.type=some i∧i.size≠0∧q=(x.offset,x.type,i.size):=by
 unfold Qa4 at h;split at h
 ·rename_i fs hfs;split at h
  ·rename_i x hx;split at h
   ·rename_i i hi;split at h
    ·cases h
    ·rename_i hz;cases h;exact⟨fs,x,i,hfs,hx,hi,hz,rfl⟩
   ·cases h
  ·cases h
 ·cases h
def Calm (P:Program) (w:World) (im:Im) (ρ:Rho) (a:Act) (o:Oper) (v:PV):Prop:=
 ∃u,(execOp a.eval o).run P w= .ok (.value u) w∧LR w im ρ v u
theorem Zcu {x:Operand} {v:PV} (ho:o.op= .move x) (hv:LR w im ρ v (a.eval x)):Calm P w im ρ a o v:=⟨_,by simp [execOp,ho],hv⟩
theorem Qxp {x:Operand} {v:PV} (ho:o.op= .assign x) (hv:LR w im ρ v (a.eval x)):Calm P w im ρ a o v:=⟨_,by simp [execOp,ho],hv⟩
theorem Zcv {c x y:Operand} {b:Bool} {v v':PV} (ho:o.op= .pick c x y) (hc:LR w im ρ (.bool b) (a.eval c)) (hv:LR w im ρ v (a.eval x)) (hv':LR w im ρ v' (a.eval y)):
  Calm P w im ρ a o (if b then v else v'):=by
 have e:=hc.bool_inv;cases b
 ·exact⟨a.eval y,by simp [execOp,ho,e,asBool],by simpa using hv'⟩
 ·exact⟨a.eval x,by simp [execOp,ho,e,asBool],by simpa using hv⟩
theorem Ql9 {x:Operand} {b esz i off:Nat} (ho:o.op= .nilCheck x) (hv:LR w im ρ (.bp b esz i off) (a.eval x)):Calm P w im ρ a o (.bp b esz i off):=by
 obtain⟨g,_,e⟩:=hv.bp_inv;exact⟨a.eval x,by simp [execOp,ho,e],hv⟩
theorem Qma {x:Operand} {cs:List PV} (ho:o.op= .nilCheck x) (hv:LR w im ρ (.rp cs) (a.eval x)):Calm P w im ρ a o (.rp cs):=by
 obtain⟨g,p,e⟩: ∃g p,a.eval x= .pointer (some ⟨g,p,none⟩):=by
  have h:=hv.rp_inv;generalize a.eval x=u at*;cases h;exact⟨_,_,rfl⟩
 exact⟨a.eval x,by simp [execOp,ho,e],hv⟩
theorem Qmb {x:Operand} {f:FuncId} {first cap:List PV} (ho:o.op= .nilCheck x) (hv:LR w im ρ (.fn f first cap) (a.eval x)):Calm P w im ρ a o (.fn f first cap):=by
 obtain⟨_,_,e,_⟩:=hv.fn_inv;exact⟨a.eval x,by simp [execOp,ho,e],hv⟩
theorem Q3o {op:BinOp} {k:IntKind} {x y:Int} {v:PV} (h:Qet op k x y=some v):
  ∃u,(match op with
   | .add| .sub| .mul=>Op.intArith op k x y
   | .quo| .rem=>Op.intDiv op k x y
   | .and| .or| .xor| .andNot=>Op.intBits op k x y
   |_=>Op.intCmp op x y).run P w= .ok u w∧Rep w im v u:=by
 cases op<;>simp only [Qet,Qln,Option.map_some,Option.map_none,Option.some.injEq]at h<;>try (cases h;done)
 case quo=>split at h<;>cases h;rename_i hy;exact⟨_,by simp [Op.intDiv,hy],.int _ _⟩
 case rem=>split at h<;>cases h;rename_i hy;exact⟨_,by simp [Op.intDiv,hy],.int _ _⟩
 case add=>subst h;exact⟨_,by simp [Op.intArith],.int _ _⟩
 case sub=>subst h;exact⟨_,by simp [Op.intArith],.int _ _⟩
 case mul=>subst h;exact⟨_,by simp [Op.intArith],.int _ _⟩
 case and=>subst h;exact⟨_,by simp [Op.intBits],.int _ _⟩
 case or=>subst h;exact⟨_,by simp [Op.intBits],.int _ _⟩
 case xor=>subst h;exact⟨_,by simp [Op.intBits],.int _ _⟩
 case andNot=>subst h;exact⟨_,by simp [Op.intBits],.int _ _⟩
 case eql=>subst h;exact⟨_,by simp [Op.intCmp],.bool _⟩
 case neq=>subst h;exact⟨_,by simp [Op.intCmp],.bool _⟩
 case lss=>subst h;exact⟨_,by simp [Op.intCmp],.bool _⟩
 case leq=>subst h;exact⟨_,by simp [Op.intCmp],.bool _⟩
 case gtr=>subst h;exact⟨_,by simp [Op.intCmp],.bool _⟩
 case geq=>subst h;exact⟨_,by simp [Op.intCmp],.bool _⟩
theorem Qlo {op:BinOp} {k yk:IntKind} {x y:Int} {v:PV} (h:Qh8 op k x y=some v):
  ∃u,(Op.shift op k x yk y).run P w= .ok u w∧Rep w im v u:=by
 unfold Qh8 at h;split at h
 ·cases h
 ·rename_i hy;cases op<;>simp only [Option.some.injEq]at h<;>try (cases h;done)
  case shl=>subst h;exact⟨_,by simp [Op.shift,hy],.int _ _⟩
  case shr=>subst h;exact⟨_,by simp [Op.shift,hy],.int _ _⟩
theorem Q3p {op:BinOp} {x y:ByteArray} {v:PV} (h:Qz6 op x y=some v): ∃u,(Op.stringOp op x y).run P w= .ok u w∧Rep w im v u:=by
 cases op<;>simp only [Qz6,Option.some.injEq]at h<;>try (cases h;done)
 case add=>
  split at h
  ·cases h
  ·rename_i hh;cases h;exact⟨_,by simp only [Op.stringOp,hh,if_false];rfl,.str _⟩
 case eql=>subst h;exact⟨_,by simp [Op.stringOp],.bool _⟩
 case neq=>subst h;exact⟨_,by simp [Op.stringOp],.bool _⟩
 case lss=>subst h;exact⟨_,by simp [Op.stringOp],.bool _⟩
 case leq=>subst h;exact⟨_,by simp [Op.stringOp],.bool _⟩
 case gtr=>subst h;exact⟨_,by simp [Op.stringOp],.bool _⟩
 case geq=>subst h;exact⟨_,by simp [Op.stringOp],.bool _⟩
theorem Qda {op:BinOp} {t:TypeId} {x y:Operand} {p q:Value} (h1:p.oneCell'=true) (h2:p≠ .nilIface):(eqGuard op t x y p q).run P w= .ok () w:=by
 cases p<;>first|(simp [Value.oneCell']at h1;done)|exact absurd rfl h2|(unfold eqGuard;cases op<;>cases q<;>rfl)
theorem Qum {t:TypeId} {p q:Bool} (hu:P.underlying t=some .bool) (d:Nat):(Op.equalIn (d+1) t (.bool p) (.bool q)).run P w= .ok (p==q) w:=by
 simp [Op.equalIn,run_underlying hu]
theorem Qqd {t:TypeId} {p q:Bool} (hu:P.underlying t=some .bool):(Op.equal t (.bool p) (.bool q)).run P w= .ok (p==q) w:=Qum hu 9999
theorem Qk2 {op:BinOp} {t ty:TypeId} {x y:Operand} {b:Bool} {r:PV} {p:Value} (hr:Qj7 op t P b=some r) (ho:o.op= .binOp op t x y ty) (hp:a.eval x=p) (hp1:p.oneCell'=true) (hp2:p≠ .nilIface)
  (hq:a.eval y= .slice none 0 0) (he:(∃e,P.underlying t=some (.slice e))→(Op.equal t p (.slice none 0 0)).run P w= .ok b w):Calm P w im ρ a o r:=by
 unfold Qj7 at hr;split at hr
 ·rename_i e hu;cases hr;refine⟨.bool b,?_,.ext _ _ (.bool _)⟩;simp only [execOp,ho,hp,hq,Sem.run_bind,Qda (P:=P) (w:=w) hp1 hp2,Result.andThen_ok];simp [binOp,he ⟨e,hu⟩]
 ·rename_i e hu;cases hr;refine⟨.bool !b,?_,.ext _ _ (.bool _)⟩;simp only [execOp,ho,hp,hq,Sem.run_bind,Qda (P:=P) (w:=w) hp1 hp2,Result.andThen_ok];simp [binOp,he ⟨e,hu⟩]
 ·cases hr
theorem Qmc {t e:TypeId} {ad:Option Addr} {l c:Nat} (hu:P.underlying t=some (.slice e)) (d:Nat):(Op.equalIn (d+1) t (.slice ad l c) (.slice none 0 0)).run P w= .ok ad.isNone w:=by
 cases ad<;>simp [Op.equalIn,run_underlying hu]
theorem Qf3 {t e:TypeId} {ad:Option Addr} {l c:Nat} (hu:P.underlying t=some (.slice e)):(Op.equal t (.slice ad l c) (.slice none 0 0)).run P w= .ok ad.isNone w:=Qmc hu 9999
theorem Zmw {op:BinOp} {t ty:TypeId} {x y:Operand} {v v' r:PV} (ho:o.op= .binOp op t x y ty) (hx:LR w im ρ v (a.eval x)) (hy:LR w im ρ v' (a.eval y))
  (hr:Qb8 op t P v v'=some r):Calm P w im ρ a o r:=by
 unfold Qb8 at hr;split at hr
 ·rename_i k p k' q;have e1:=hx.int_inv;have e2:=hy.int_inv;split at hr
  ·obtain⟨u,hu,hru⟩:=Qlo (P:=P) (w:=w) (im:=im) (yk:=k') hr;refine⟨u,?_,.ext _ _ hru⟩;simp [execOp,ho,e1,e2,eqGuard,binOp,hu]
  ·obtain⟨u,hu,hru⟩:=Qlo (P:=P) (w:=w) (im:=im) (yk:=k') hr;refine⟨u,?_,.ext _ _ hru⟩;simp [execOp,ho,e1,e2,eqGuard,binOp,hu]
  ·rename_i n1 n2;split at hr
   ·rename_i hk;subst hk;obtain⟨u,hu,hru⟩:=Q3o (P:=P) (w:=w) (im:=im) hr;refine⟨u,?_,.ext _ _ hru⟩;simp only [execOp,ho,e1,e2];simp only [Sem.run_bind,Qda (P:=P) (w:=w) (p:= .int k p) rfl (by simp),Result.andThen_ok];cases op<;>simp_all [binOp]
   ·cases hr
 ·rename_i p q;have e1:=hx.str_inv;have e2:=hy.str_inv;obtain⟨u,hu,hru⟩:=Q3p (P:=P) (w:=w) (im:=im) hr;refine⟨u,?_,.ext _ _ hru⟩;simp only [execOp,ho,e1,e2,Sem.run_bind,Qda (P:=P) (w:=w) (p:= .string p) rfl (by simp),Result.andThen_ok];cases op<;>simp_all [binOp]
 ·rename_i p q;have e1:=hx.bool_inv;have e2:=hy.bool_inv;split at hr
  ·rename_i hu;cases hr;refine⟨.bool (p==q),?_,.ext _ _ (.bool _)⟩;simp only [execOp,ho,e1,e2,Sem.run_bind,Qda (P:=P) (w:=w) (p:= .bool p) rfl (by simp),Result.andThen_ok];simp [binOp,Qqd hu]
  ·rename_i hu;cases hr;refine⟨.bool !(p==q),?_,.ext _ _ (.bool _)⟩;simp only [execOp,ho,e1,e2,Sem.run_bind,Qda (P:=P) (w:=w) (p:= .bool p) rfl (by simp),Result.andThen_ok];simp [binOp,Qqd hu]
  ·cases hr
 ·rename_i xs ys;obtain⟨us,e1,h1⟩:=hx.agg_inv;obtain⟨vs,e2,h2⟩:=hy.agg_inv;split at hr
  case h_2=>cases hr
  rename_i sh hsh0;unfold Qcw at hsh0;split at hsh0
  ·cases hsh0
  rename_i hg;have hg:P.eqGuardType P.depth t=false:=by simpa using hg
  split at hsh0
  case h_2=>cases hsh0
  rename_i fs0 hfs0;have hsh:=hsh0;have hst: ∀b,Qbr sh xs ys=some b→(∃fs,P.underlying t=some (.struct fs))→(Op.equal t (.agg us.toArray) (.agg vs.toArray)).run P w= .ok b w:=by
   rintro b hb ⟨fs,hfs⟩;exact Qkd Op.maxDepth t sh xs ys us vs _ _ b hsh hb h1 h2 (fun _=>⟨rfl,rfl⟩) (fun hh=>by rw [hfs]at hh;cases hh)
  have hfs: ∀b,Qbr sh xs ys=some b→ ∃fs,P.underlying t=some (.struct fs):=fun _ _=>⟨_,hfs0⟩;have hgd: ∀x y,(eqGuard op t x y (.agg us.toArray) (.agg vs.toArray)).run P w= .ok () w:=by
   intro x y;cases op<;>simp [eqGuard,hg]
  split at hr<;>cases hr
  ·rename_i b hb;refine⟨.bool b,?_,.ext _ _ (.bool _)⟩;simp only [execOp,ho,e1,e2,Sem.run_bind,hgd,Result.andThen_ok];simp [binOp,hst b hb (hfs b hb)]
  ·rename_i b hb;refine⟨.bool !b,?_,.ext _ _ (.bool _)⟩;simp only [execOp,ho,e1,e2,Sem.run_bind,hgd,Result.andThen_ok];simp [binOp,hst b hb (hfs b hb)]
 ·exact Qk2 hr ho hx.nilS_inv rfl (by simp) hy.nilS_inv (fun⟨e,hu⟩=>by rw [Qf3 hu];rfl)
 ·rename_i es;split at hr
  ·cases hr
  ·rename_i hes;have h1:=hx.slc_inv;have key: ∃g l c,a.eval x= .slice (some g) l c:=by
    generalize a.eval x=u at h1;cases h1 with
    |slcNil c hm=>simp at hes
    |slcE p cap hm=>simp at hes
    |slc es g off len cap sz vs=>exact⟨_,_,_,rfl⟩
   obtain⟨g,l,c,hg⟩:=key;exact Qk2 hr ho hg rfl (by simp) hy.nilS_inv (fun⟨e,hu⟩=>by rw [Qf3 hu];rfl)
 ·rename_i b esz off len;split at hr
  ·cases hr
  ·rename_i hes;have key: ∃g l c,a.eval x= .slice (some g) l c:=by
    generalize a.eval x=u at hx;cases hx with
    |ext _ _ h=>cases h
    |bsNil=>simp at hes
    |bs=>exact⟨_,_,_,rfl⟩
   obtain⟨g,l,c,hg⟩:=key;exact Qk2 hr ho hg rfl (by simp) hy.nilS_inv (fun⟨e,hu⟩=>by rw [Qf3 hu];rfl)
 ·cases hr
theorem Zvd {op:UnOp} {t:TypeId} {x:Operand} {v r:PV} (ho:o.op= .unOp op t x) (hx:LR w im ρ v (a.eval x)) (hr:unPV op v=some r):Calm P w im ρ a o r:=by
 unfold unPV at hr;split at hr<;>try (cases hr;done)
 ·cases hr;exact⟨_,by simp [execOp,ho,hx.int_inv,Op.unary,Op.intArith],.ext _ _ (.int _ _)⟩
 ·cases hr;exact⟨_,by simp [execOp,ho,hx.int_inv,Op.unary,Op.intBits],.ext _ _ (.int _ _)⟩
 ·cases hr;exact⟨_,by simp [execOp,ho,hx.bool_inv,Op.unary],.ext _ _ (.bool _)⟩
theorem Zcw {s d:TypeId} {x:Operand} {v r:PV} (ho:o.op= .convert s d x) (hx:LR w im ρ v (a.eval x)) (hr:Qod P s d v=some r):Calm P w im ρ a o r:=by
 unfold Qod at hr;split at hr<;>try (cases hr;done)
 rename_i k1 k2 k n h1 h2;cases hr;refine⟨_,?_,.ext _ _ (.int _ _)⟩;simp [execOp,ho,hx.int_inv,convert,run_underlying h1,run_underlying h2,Conv.intToInt]
theorem Qsh {f:FuncId} {first cap:Array Operand} {vs:List PV} (ho:o.op= .makeFunc (.func f) first cap) (hx:LRL w im ρ vs ((first++cap).toList.map a.eval)):
  Calm P w im ρ a o (.fn f (vs.take first.size) (vs.drop first.size)):=by
 refine⟨.func (.func f) (first.toList.map a.eval).toArray (cap.toList.map a.eval).toArray,?_,?_⟩
 ·simp [execOp,ho,Instr.makeFunc];constructor<;>(apply Array.ext';simp)
 ·have h1:=hx.take first.size
  have h2:=hx.drop first.size
  have e1:((first++cap).toList.map a.eval).take first.size=first.toList.map a.eval:=by simp
  have e2:((first++cap).toList.map a.eval).drop first.size=cap.toList.map a.eval:=by simp
  rw [e1]at h1;rw [e2]at h2;exact .fn f _ _ _ _ h1 h2
theorem Qun {x:Operand} {i:Nat} {vs:List PV} {v:PV} (ho:o.op= .extract x i) (hx:LR w im ρ (.tup vs) (a.eval x)) (hv:vs[i]? =some v):Calm P w im ρ a o v:=by
 obtain⟨us,e,hr⟩:=hx.tup_inv;obtain⟨u,hu,hru⟩:=hr.get i v hv;exact⟨u,by simp [execOp,ho,e,Instr.extract,hu],hru⟩
theorem Q3q {t:TypeId} {x:Operand} {f:Nat} {cs:List PV} {q:Nat×TypeId×Nat} {v:PV} (ho:o.op= .field t x f) (hx:LR w im ρ (.agg cs) (a.eval x)) (hq:Qa4 P t f=some q)
  (hv:Qdw P q.2.1 cs q.1=some v):Calm P w im ρ a o v:=by
 obtain⟨us,e,hr⟩:=hx.agg_inv;obtain⟨fs,fx,i,h1,h2,h3,h4,rfl⟩:=Qog hq;obtain⟨u,hu,hru⟩:=Qz8 (P:=P) (w:=w) hr hv;exact⟨u,by simp [execOp,ho,e,Instr.field,run_underlying h1,h2,asAgg,hu],hru⟩
theorem Qia (g p n:Nat):(⟨g,p,none⟩:Addr).add n=⟨g,p+n,none⟩:=by unfold Addr.add;split<;>simp_all
theorem Zcx {cs:List PV} {g p:Nat} {n:Nat} (h:Rep w im (.rp cs) (.pointer (some ⟨g,p,none⟩))):Rep w im (.rp (cs.drop n)) (.pointer (some ⟨g,p+n,none⟩)):=by
 cases h with
 |rp _ _ _ vs hi hc hr=>
  refine .rp _ _ _ (vs.drop n) ?_ ?_ (hr.drop n)
  ·intro j hj;have:=hi (n+j) (by simp at hj;omega)
   rwa [←Nat.add_assoc]at this
  ·intro j hj;have:=hc (n+j) (by simp at hj;omega);rw [←Nat.add_assoc]at this;rw [this,List.getElem?_drop]
theorem Zcy {cs:List PV} {u:Value} (h:Rep w im (.rp cs) u): ∃g p,u= .pointer (some ⟨g,p,none⟩):=by cases h;exact⟨_,_,rfl⟩
theorem Qoh {t:TypeId} {f g p:Nat} {q:Nat×TypeId×Nat} (hq:Qa4 P t f=some q):
  (Instr.fieldAt t (.pointer (some ⟨g,p,none⟩)) f).run P w= .ok (.pointer (some ⟨g,p+q.1,none⟩)) w:=by
 obtain⟨fs,fx,i,h1,h2,h3,h4,rfl⟩:=Qog hq;simp [Instr.fieldAt,run_underlying h1,h2,Instr.sureAddr,fieldPlace,Qbg h3,h4,Qia]
theorem Qk3 {t:TypeId} {x:Operand} {f b esz i off:Nat} {q:Nat×TypeId×Nat} (ho:o.op= .fieldAddr t x f) (hx:LR w im ρ (.bp b esz i off) (a.eval x)) (hq:Qa4 P t f=some q):
  Calm P w im ρ a o (.bp b esz i (off+q.1)):=by
 obtain⟨g,hg,e⟩:=hx.bp_inv;exact⟨.pointer (some ⟨g,i*esz+off+q.1,none⟩),by simp [execOp,ho,e,Qoh hq],.bp _ _ _ _ g _ hg (by omega)⟩
theorem Qk4 {t:TypeId} {x:Operand} {f:Nat} {cs:List PV} {q:Nat×TypeId×Nat} (ho:o.op= .fieldAddr t x f) (hx:LR w im ρ (.rp cs) (a.eval x)) (hq:Qa4 P t f=some q):
  Calm P w im ρ a o (.rp (cs.drop q.1)):=by
 have hr:=hx.rp_inv;obtain⟨g,p,e⟩:=Zcy hr;rw [e]at hr;exact⟨_,by simp [execOp,ho,e,Qoh hq],.ext _ _ (Zcx hr)⟩
theorem Qhl {t e:TypeId} {n:Nat} {j:TypeInfo} {k:IntKind} {i:Int} {g p:Nat} (ht:P.underlying t=some (.array n e)) (hj:P.info? e=some j) (h0:0≤i) (h1:i<n):
  (Instr.indexAt t (.pointer (some ⟨g,p,none⟩)) (.int k i)).run P w= .ok (.pointer (some ⟨g,p+i.toNat*j.size,none⟩)) w:=by
 simp [Instr.indexAt,asIntOf,run_underlying ht,Instr.sureAddr,h0,h1,Qbg hj,Qia]
theorem Qgi {t e:TypeId} {n c:Nat} {j:TypeInfo} {k:IntKind} {i:Int} {g p:Nat} (ht:P.underlying t=some (.slice e)) (hj:P.info? e=some j) (h0:0≤i) (h1:i<n):
  (Instr.indexAt t (.slice (some ⟨g,p,none⟩) n c) (.int k i)).run P w= .ok (.pointer (some ⟨g,p+i.toNat*j.size,none⟩)) w:=by
 simp [Instr.indexAt,asIntOf,run_underlying ht,h0,h1,Qbg hj,Qia]
theorem Qk5 {t:TypeId} {x y:Operand} {b esz k off:Nat} {ik:IntKind} {i:Int} {q:Nat×TypeId} {s:Nat×Nat} (ho:o.op= .indexAddr t x y) (hx:LR w im ρ (.bp b esz k off) (a.eval x))
  (hy:LR w im ρ (.int ik i) (a.eval y)) (hq:Qgf P t=some q) (hs:Qaz P q.2=some s) (h0:0≤i) (h1:i<q.1):Calm P w im ρ a o (.bp b esz k (off+i.toNat*s.1)):=by
 obtain⟨g,hg,e⟩:=hx.bp_inv;obtain⟨j,hj,hj1,_⟩:=Qbz hs;refine⟨_,?_,.bp _ _ _ _ g _ hg rfl⟩;simp [execOp,ho,e,hy.int_inv,Qhl (Qof hq) hj h0 h1,hj1,Nat.add_assoc]
theorem Qk6 {t:TypeId} {x y:Operand} {cs:List PV} {ik:IntKind} {i:Int} {q:Nat×TypeId} {s:Nat×Nat} (ho:o.op= .indexAddr t x y) (hx:LR w im ρ (.rp cs) (a.eval x))
  (hy:LR w im ρ (.int ik i) (a.eval y)) (hq:Qgf P t=some q) (hs:Qaz P q.2=some s) (h0:0≤i) (h1:i<q.1):Calm P w im ρ a o (.rp (cs.drop (i.toNat*s.1))):=by
 have hr:=hx.rp_inv;obtain⟨g,p,e⟩:=Zcy hr;rw [e]at hr;obtain⟨j,hj,hj1,_⟩:=Qbz hs;refine⟨_,?_,.ext _ _ (Zcx hr)⟩;simp [execOp,ho,e,hy.int_inv,Qhl (Qof hq) hj h0 h1,hj1]
theorem Qk7 {t:TypeId} {x y:Operand} {b esz off len:Nat} {ik:IntKind} {i:Int} {E:TypeId} {s:Nat×Nat} (ho:o.op= .indexAddr t x y) (hx:LR w im ρ (.bs b esz off len) (a.eval x))
  (hy:LR w im ρ (.int ik i) (a.eval y)) (hq:Qb3 P t=some E) (hs:Qaz P E=some s) (hse:s.1=esz) (h0:0≤i) (h1:i<len):Calm P w im ρ a o (.bp b esz (off+i.toNat) 0):=by
 obtain⟨j,hj,hj1,_⟩:=Qbz hs;rcases hx.bs_inv with⟨_,_,_,h⟩|⟨g,cap,cur,e',hg,e,_,_,_,_⟩
 ·omega
 ·refine⟨_,?_,.bp _ _ _ _ g _ hg rfl⟩;simp [execOp,ho,e,hy.int_inv,Qgi (Qcg hq) hj h0 h1,hj1,hse,Nat.add_mul]
theorem Qkb {t:TypeId} {x y:Operand} {es:List PV} {ik:IntKind} {i:Int} {E:TypeId} {s:Nat×Nat} {el:PV} (ho:o.op= .indexAddr t x y) (hx:LR w im ρ (.slc es) (a.eval x))
  (hy:LR w im ρ (.int ik i) (a.eval y)) (hq:Qb3 P t=some E) (hs:Qaz P E=some s) (h0:0≤i) (hel:es[i.toNat]? =some el) (hz:el.cells.length=s.1):Calm P w im ρ a o (.rp el.cells):=by
 obtain⟨j,hj,hj1,_⟩:=Qbz hs;have hr:=hx.slc_inv;have hlt:i.toNat<es.length:=(List.getElem?_eq_some_iff.1 hel).1;generalize hu:a.eval x=u at*;cases hr with
 |slcNil c hm=>simp at hlt
 |slcE p cap hm=>simp at hlt
 |slc _ g off len cap sz vs hn hm hzz hi hc hrl hcap=>
  have hsz:sz=s.1:=by rw [←hz];exact(hzz el (List.mem_of_getElem? hel)).symm
  subst hsz;have hfl:=Qa1 hzz;have hvl:=hrl.length;have hmul:i.toNat*s.1+s.1≤es.length*s.1:=by rw [←Nat.succ_mul];exact Nat.mul_le_mul_right _ hlt
  refine⟨.pointer (some ⟨g,off+i.toNat*s.1,none⟩),?_,.ext _ _ ?_⟩
  ·simp [execOp,ho,hu,hy.int_inv,Qgi (w:=w) (P:=P) (c:=cap) (g:=g) (p:=off) (k:=ik) (Qcg hq) hj h0 (show i<len by omega),hj1]
  ·have hcut:((es.flatMap PV.cells).drop (i.toNat*s.1)).take s.1=el.cells:=by
    apply List.ext_getElem?;intro j;simp only [List.getElem?_take,List.getElem?_drop];split
    ·rename_i hj;exact Qmv hzz hel hj
    ·rw [List.getElem?_eq_none];omega
   have h2:=(hrl.drop (i.toNat*s.1)).take s.1;rw [hcut]at h2;refine .rp _ _ _ _ ?_ ?_ h2
   ·intro j hj;have:=hi (i.toNat*s.1+j) (by simp at hj;omega)
    rwa [←Nat.add_assoc]at this
   ·intro j hj;have:=hc (i.toNat*s.1+j) (by simp at hj;omega);rw [←Nat.add_assoc]at this;rw [this];simp only [List.getElem?_take,List.getElem?_drop];rw [if_pos (by simp at hj;omega)]
theorem Qo5 {t:TypeId} {x y:Operand} {cs:List PV} {ik:IntKind} {i:Int} {q:Nat×TypeId} {s:Nat×Nat} {v:PV} (ho:o.op= .index t x y) (hx:LR w im ρ (.agg cs) (a.eval x))
  (hy:LR w im ρ (.int ik i) (a.eval y)) (hq:Qgf P t=some q) (hs:Qaz P q.2=some s) (h0:0≤i) (h1:i<q.1) (hv:Qdw P q.2 cs (i.toNat*s.1)=some v):Calm P w im ρ a o v:=by
 obtain⟨us,e,hr⟩:=hx.agg_inv;obtain⟨j,hj,hj1,_⟩:=Qbz hs;obtain⟨u,hu,hru⟩:=Qz8 (P:=P) (w:=w) hr hv;refine⟨u,?_,hru⟩;simp [execOp,ho,e,hy.int_inv,Instr.index,asIntOf,run_underlying (Qof hq),h0,h1,Qbg hj,hj1,hu]
theorem Qo6 {t:TypeId} {x y:Operand} {s:ByteArray} {ik:IntKind} {i:Int} {c:UInt8} (ho:o.op= .index t x y) (hx:LR w im ρ (.str s) (a.eval x))
  (hy:LR w im ρ (.int ik i) (a.eval y)) (ht:P.underlying t=some .string) (h0:0≤i) (hc:s[i.toNat]? =some c):Calm P w im ρ a o (.int .u8 c.toNat):=by
 refine⟨_,?_,.ext _ _ (.int _ _)⟩;simp [execOp,ho,hx.str_inv,hy.int_inv,Instr.index,asIntOf,run_underlying ht,h0,hc]
theorem Qqe (mx:Bool): ∀(vs:List PV) (us:List Value) (x v:PV) (u:Value),LRL w im ρ vs us→LR w im ρ x u→Qir mx x vs=some v→
  ∃u',(us.foldlM (if mx then Builtin.max2 else Builtin.min2) u).run P w= .ok u' w∧LR w im ρ v u'
 | [],us,x,v,u,h,hx,e=>by
  cases h.nil_inv;have:v=x:=by cases x<;>(simp [Qir]at e;exact e.symm)
  subst this;exact⟨u,by simp,hx⟩
 |y::vs,us,x,v,u,h,hx,e=>by
  obtain⟨uy,us',rfl,hy,ht⟩:=h.cons_inv;unfold Qir at e;split at e<;>try (cases e;done)
  ·rename_i heq;cases heq
  ·rename_i k p k' q rest heq;cases heq;split at e
   ·rename_i hk;subst hk;have e1:=hx.int_inv;have e2:=hy.int_inv;subst e1;subst e2;obtain⟨u',h1,h2⟩:=Qqe mx _ us' _ v _ ht (.ext _ _ (.int k _)) e;refine⟨u',?_,h2⟩;cases mx<;>simpa [Builtin.max2,Builtin.min2]using h1
   ·cases e
end
end Go.Vl
