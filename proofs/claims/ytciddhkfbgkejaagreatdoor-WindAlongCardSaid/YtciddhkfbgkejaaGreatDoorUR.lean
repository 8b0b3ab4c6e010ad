/-
  UP, UQ, UR (merged for the claim).
-/
import Derived.Test.YtciddhkfbgkejaaGreatDoorUO
import Derived.KernelRfl
import Derived.IntWalk
import Derived.ProofKit
set_option linter.unusedSimpArgs false
set_option linter.unusedVariables false
namespace Go.Vl
open Go.RowKit
section
variable (P:Program) (tb:Tab) (id:Nat) (bx:Bx)
theorem Zoo (x:Operand) (v:PV):Qa3 P tb id (.move x) [v] bx=some (.done v [],[]):=rfl
theorem Zfa (x:Operand) (v:PV):Qa3 P tb id (.assign x) [v] bx=some (.done v [],[]):=rfl
theorem Qqs (x:Operand) (b e i o:Nat):Qa3 P tb id (.nilCheck x) [.bp b e i o] bx=some (.done (.bp b e i o) [],[]):=rfl
theorem Qqt (x:Operand) (cs:List PV):Qa3 P tb id (.nilCheck x) [.rp cs] bx=some (.done (.rp cs) [],[]):=rfl
theorem Qqu (x:Operand) (f:FuncId) (a c:List PV):Qa3 P tb id (.nilCheck x) [.fn f a c] bx=some (.done (.fn f a c) [],[]):=rfl
theorem Zfb (c x y:Operand) (v v':PV):Qa3 P tb id (.pick c x y) [.bool true,v,v'] bx=some (.done v [],[]):=rfl
theorem Zfc (c x y:Operand) (v v':PV):Qa3 P tb id (.pick c x y) [.bool false,v,v'] bx=some (.done v' [],[]):=rfl
theorem Zlc (T:TypeId):Qa3 P tb id (.alloc T) [] bx=M.bind (.ofOpt (Qa7 P T)) (fun z=>newVar id T z) bx:=rfl
theorem Zp7 (T:TypeId) (x:Operand) (v:PV):Qa3 P tb id (.box T x) [v] bx=newVar id T v bx:=rfl
theorem Zld (T:TypeId) (parts:Array (Nat×Operand)) (vs:List PV):Qa3 P tb id (.build T parts) vs bx=
  M.bind (.ok (buildable P T)) (fun _=> .bind (.ofOpt (Qoc P T)) fun z=> .bind (.ofOpt (Qkd (Qae P T) z.cells ((parts.toList.map (·.1)).zip vs))) fun cs=> .pure (.done (.agg cs) [])) bx:=rfl
theorem Qtb (T n:Nat) (parts:Array (Nat×Operand)) (vs:List PV) (h:lkp tb id=none):Qa3 P tb id (.buildSlice T n parts) vs bx=
  M.bind (.ok (parts.toList.map (·.1)==List.range n&&n≤1000)) (fun _=> .bind (.ofOpt (Qb2 P T)) fun E=> .bind (.ofOpt (Qaz P E)) fun q=>
   .bind (.ofOpt (Qa7 P E)) fun z=> .bind (.hard id) fun b=> .bind (Qfx vs) fun ys=>
   .bind (.ok (b.isNone&&z.cells.length==q.1&&ys.1.length==n&&(ys.1.all fun e=>e.cells.length==q.1&&Qa8 e.cells)&&0<q.1&&q.1≤1000)) fun _=>
   .pure (.done (.bs id q.1 0 n) (ys.2++[.new id {els:=ys.1,esz:=q.1,ety:=E,fro:=0,live:=true,arr:=true}]))) bx:=by simp only [Qa3,h]
theorem Qqv (T n:Nat) (parts:Array (Nat×Operand)) (vs:List PV) (p:List (Nat×Nat)×List (Nat×Nat)) (h:lkp tb id=some p):Qa3 P tb id (.buildSlice T n parts) vs bx=Qi0 P id T n parts vs bx:=by simp only [Qa3,h]
theorem Q7r (T:TypeId) (x:Operand) (b esz i off:Nat):Qa3 P tb id (.load T x) [.bp b esz i off] bx=
  M.bind (.soft b) (fun B=> .bind (.ok (B.esz==esz)) fun _=> .bind (.ofOpt B.els[i]?) fun e=> .bind (.ofOpt (Qc9 P T e.cells off)) fun v=> .pure (.done v [])) bx:=rfl
theorem Q7s (T:TypeId) (x:Operand) (cs:List PV):Qa3 P tb id (.load T x) [.rp cs] bx=M.bind (.ofOpt (Qc9 P T cs 0)) (fun v=> .pure (.done v [])) bx:=rfl
theorem Zle (T:TypeId) (x y:Operand) (b esz i off:Nat) (v:PV):Qa3 P tb id (.store T x y) [.bp b esz i off,v] bx=
  M.bind (.hard b) (fun Bo=> .bind (.ofOpt Bo) fun B=> .bind (.ofOpt B.els[i]?) fun e=>
   .bind (.ok (B.esz==esz&&B.live&&B.fro≤i&&(P.info? T).isSome&&v.cells.length==P.cellsOf T&&Qa8 v.cells&&off+v.cells.length≤e.cells.length)) fun _=>
   if B.arr then .bind (escL v.cells) fun y=> .bind (.ok (Qa8 y.1&&y.2.all fun e=>e.id != b)) fun _=> .pure (.done (.tup []) (y.2++[.wr b i (e.putCells off y.1)]))
   else .pure (.done (.tup []) [.wr b i (e.putCells off v.cells)])) bx:=rfl
theorem Zp8 (op:BinOp) (t u:TypeId) (x y:Operand) (v v':PV):Qa3 P tb id (.binOp op t x y u) [v,v'] bx=M.bind (.ofOpt (Qbz op t P v v')) (fun v=> .pure (.done v [])) bx:=rfl
theorem Zp9 (t:TypeId) (x:Operand) (a:Bool):Qa3 P tb id (.unOp .not t x) [.bool a] bx=some (.done (.bool !a) [],[]):=rfl
theorem Zqa (t:TypeId) (x:Operand) (k:IntKind) (a:Int):Qa3 P tb id (.unOp .neg t x) [.int k a] bx=some (.done (.int k (k.wrap (0-a))) [],[]):=rfl
theorem Zop (s d:TypeId) (x:Operand) (v:PV):Qa3 P tb id (.convert s d x) [v] bx=Qp9 P s d v bx:=rfl
theorem Qz5 (f:FuncId) (first cap:Array Operand) (vs:List PV):Qa3 P tb id (.makeFunc (.func f) first cap) vs bx=some (.done (.fn f (vs.take first.size) (vs.drop first.size)) [],[]):=rfl
theorem Qve (T:TypeId) (x y:Operand) (k k':IntKind) (l c:Int):Qa3 P tb id (.makeSlice T x y) [.int k l,.int k' c] bx=
  M.bind (.ofOpt (Qb2 P T)) (fun E=> .bind (.ofOpt (Qaz P E)) fun q=> .bind (.ofOpt (Qa7 P E)) fun z=> .bind (.hard id) fun b=>
   .bind (.ok (b.isNone&&z.cells.length==q.1&&Qa8 z.cells&&0<q.1&&decide (0≤l)&&decide (l≤c)&&decide ((q.2:Int)*c≤281474976710656)&&decide (c≤9223372036854775807))) fun _=>
   .pure (.done (.bs id q.1 0 l.toNat) [.new id {els:=List.replicate l.toNat z,esz:=q.1,ety:=E,fro:=0,live:=true,arr:=true}])) bx:=rfl
theorem Zfd (T:TypeId) (x:Operand) (v:PV):Qa3 P tb id (.slice T x none none none) [v] bx=Qcl P T v none none bx:=rfl
theorem Zfe (T:TypeId) (x l:Operand) (v vl:PV):Qa3 P tb id (.slice T x (some l) none none) [v,vl] bx=Qcl P T v (some vl) none bx:=rfl
theorem Zff (T:TypeId) (x h:Operand) (v vh:PV):Qa3 P tb id (.slice T x none (some h) none) [v,vh] bx=Qcl P T v none (some vh) bx:=rfl
theorem Zfg (T:TypeId) (x l h:Operand) (v vl vh:PV):Qa3 P tb id (.slice T x (some l) (some h) none) [v,vl,vh] bx=Qcl P T v (some vl) (some vh) bx:=rfl
theorem Qnm (T:TypeId) (x:Operand) (f b e i o:Nat):Qa3 P tb id (.fieldAddr T x f) [.bp b e i o] bx=M.bind (.ofOpt (Qa6 P T f)) (fun q=> .pure (.done (.bp b e i (o+q.1)) [])) bx:=rfl
theorem Qnn (T:TypeId) (x:Operand) (f:Nat) (cs:List PV):Qa3 P tb id (.fieldAddr T x f) [.rp cs] bx=M.bind (.ofOpt (Qa6 P T f)) (fun q=> .pure (.done (.rp (cs.drop q.1)) [])) bx:=rfl
theorem Zlf (T:TypeId) (x:Operand) (f:Nat) (cs:List PV):Qa3 P tb id (.field T x f) [.agg cs] bx=M.bind (.ofOpt (Qa6 P T f)) (fun q=> .bind (.ofOpt (Qc9 P q.2.1 cs q.1)) fun v=> .pure (.done v [])) bx:=rfl
theorem Qno (T:TypeId) (x y:Operand) (b e k o:Nat) (ik:IntKind) (i:Int):Qa3 P tb id (.indexAddr T x y) [.bp b e k o,.int ik i] bx=
  M.bind (.ofOpt (Qge P T)) (fun q=> .bind (.ofOpt (Qaz P q.2)) fun s=> .bind (.ok (decide (0≤i)&&decide (i<q.1)&&decide (1<q.1))) fun _=> .pure (.done (.bp b e k (o+i.toNat*s.1)) [])) bx:=rfl
theorem Qnp (T:TypeId) (x y:Operand) (cs:List PV) (ik:IntKind) (i:Int):Qa3 P tb id (.indexAddr T x y) [.rp cs,.int ik i] bx=
  M.bind (.ofOpt (Qge P T)) (fun q=> .bind (.ofOpt (Qaz P q.2)) fun s=> .bind (.ok (decide (0≤i)&&decide (i<q.1)&&decide (1<q.1))) fun _=> .pure (.done (.rp (cs.drop (i.toNat*s.1))) [])) bx:=rfl
theorem Qnq (T:TypeId) (x y:Operand) (b e o n:Nat) (ik:IntKind) (i:Int):Qa3 P tb id (.indexAddr T x y) [.bs b e o n,.int ik i] bx=
  M.bind (.ofOpt (Qb2 P T)) (fun E=> .bind (.ofOpt (Qaz P E)) fun s=> .bind (.ok (s.1==e&&decide (0≤i)&&decide (i<n))) fun _=> .pure (.done (.bp b e (o+i.toNat) 0) [])) bx:=rfl
theorem Qnd (T:TypeId) (x y:Operand) (es:List PV) (ik:IntKind) (i:Int):Qa3 P tb id (.indexAddr T x y) [.slc es,.int ik i] bx=
  M.bind (.ofOpt (Qb2 P T)) (fun E=> .bind (.ofOpt (Qaz P E)) fun s=> .bind (.ok (decide (0≤i))) fun _=> .bind (.ofOpt es[i.toNat]?) fun e=> .bind (.ok (e.cells.length==s.1)) fun _=> .pure (.done (.rp e.cells) [])) bx:=rfl
theorem Qvf (T:TypeId) (x y:Operand) (cs:List PV) (ik:IntKind) (i:Int):Qa3 P tb id (.index T x y) [.agg cs,.int ik i] bx=
  M.bind (.ofOpt (Qge P T)) (fun q=> .bind (.ofOpt (Qaz P q.2)) fun s=> .bind (.ok (decide (0≤i)&&decide (i<q.1))) fun _=> .bind (.ofOpt (Qc9 P q.2 cs (i.toNat*s.1))) fun v=> .pure (.done v [])) bx:=rfl
theorem Qvg (T:TypeId) (x y:Operand) (s:ByteArray) (ik:IntKind) (i:Int):Qa3 P tb id (.index T x y) [.str s,.int ik i] bx=
  M.bind (.ok (match P.underlying T with|some .string=>decide (0≤i)|_=>false)) (fun _=> .bind (.ofOpt s[i.toNat]?) fun c=> .pure (.done (.int .u8 c.toNat) [])) bx:=rfl
theorem Q7t (x:Operand) (i:Nat) (vs:List PV):Qa3 P tb id (.extract x i) [.tup vs] bx=M.bind (.ofOpt vs[i]?) (fun v=> .pure (.done v [])) bx:=rfl
theorem Zqb (asx:Array Operand) (ts:Array TypeId) (x:PV):Qa3 P tb id (.call ⟨.builtin .len,asx,ts⟩) [x] bx=M.bind (.ofOpt ts[0]?) (fun t=> .bind (.ofOpt (Qbq P t x)) fun v=> .pure (.done v [])) bx:=rfl
theorem Zfh (asx:Array Operand) (ts:Array TypeId) (s x:PV) (h:lkp tb id=none):Qa3 P tb id (.call ⟨.builtin .append,asx,ts⟩) [s,x] bx=
  M.bind (.ofOpt ts[0]?) (fun t=> .bind (.ofOpt ts[1]?) fun t2=> .bind (.ok (ts.size==2)) fun _=>Qdn P id t t2 s x) bx:=by simp only [Qa3,h]
theorem Q7u (asx:Array Operand) (ts:Array TypeId) (s x:PV) (p:List (Nat×Nat)×List (Nat×Nat)) (h:lkp tb id=some p):Qa3 P tb id (.call ⟨.builtin .append,asx,ts⟩) [s,x] bx=
  M.bind (.ofOpt ts[0]?) (fun t=> .bind (.ofOpt ts[1]?) fun t2=> .bind (.ok (ts.size==2)) fun _=>appendD P id t t2 s x) bx:=by simp only [Qa3,h]
theorem Zqc (asx:Array Operand) (ts:Array TypeId) (x:PV) (xs:List PV):Qa3 P tb id (.call ⟨.builtin .max,asx,ts⟩) (x::xs) bx=M.bind (.ofOpt (Qhq true x xs)) (fun v=> .pure (.done v [])) bx:=rfl
theorem Zqd (asx:Array Operand) (ts:Array TypeId) (x:PV) (xs:List PV):Qa3 P tb id (.call ⟨.builtin .min,asx,ts⟩) (x::xs) bx=M.bind (.ofOpt (Qhq false x xs)) (fun v=> .pure (.done v [])) bx:=rfl
theorem Zgk (fo:Operand) (asx:Array Operand) (ts:Array TypeId) (f:FuncId) (first cap args:List PV) (h:lkp tb id=none):Qa3 P tb id (.call ⟨.value fo,asx,ts⟩) (.fn f first cap::args) bx=
  M.bind (Qfj first) (fun x=> .bind (Qfx args) fun y=> .bind (Qfj cap) fun z=> .pure (.call f (x.1++y.1++z.1) (x.2++y.2++z.2))) bx:=by simp only [Qa3,h]
theorem Zgl (fo:Operand) (asx:Array Operand) (ts:Array TypeId) (f:FuncId) (first cap args:List PV) (θ ν:List (Nat×Nat)) (h:lkp tb id=some (θ,ν)):Qa3 P tb id (.call ⟨.value fo,asx,ts⟩) (.fn f first cap::args) bx=
  Qdl θ ν f (first++args++cap) bx:=by simp only [Qa3,h]
theorem Zoq (asx:Array Operand) (ts:Array TypeId) (d x:PV):Qa3 P tb id (.call ⟨.builtin .copy,asx,ts⟩) [d,x] bx=M.bind (.ofOpt ts[0]?) (fun t=>Qi1 P t d x) bx:=rfl
theorem Zlg (asx:Array Operand) (ts:Array TypeId) (d:PV):Qa3 P tb id (.call ⟨.builtin .clear,asx,ts⟩) [d] bx=M.bind (.ofOpt ts[0]?) (fun t=>Qfy P t d) bx:=rfl
theorem Zqe (fo:Operand) (asx:Array Operand) (ts:Array TypeId) (n stop:Nat) (args:List PV):Qa3 P tb id (.call ⟨.value fo,asx,ts⟩) (.yld n stop::args) bx=
  M.bind (.hard YID) (fun _=> .bind (Qfx args) fun y=> .pure (.yield n stop y.1 y.2)) bx:=rfl
end
section
variable (P:Program) (t:TypeId) (k k':IntKind) (a b:Int)
theorem Zqf:Qbz .add t P (.int k a) (.int k b)=some (.int k (k.wrap (a+b))):=by simp [Qbz,Qd3]
theorem Zqg:Qbz .sub t P (.int k a) (.int k b)=some (.int k (k.wrap (a-b))):=by simp [Qbz,Qd3]
theorem Zqh:Qbz .mul t P (.int k a) (.int k b)=some (.int k (k.wrap (a*b))):=by simp [Qbz,Qd3]
theorem Zqi (hb:b≠0):Qbz .quo t P (.int k a) (.int k b)=some (.int k (k.wrap (a.tdiv b))):=by simp [Qbz,Qd3,hb]
theorem Zqj (hb:b≠0):Qbz .rem t P (.int k a) (.int k b)=some (.int k (a.tmod b)):=by simp [Qbz,Qd3,hb]
theorem Zor:Qbz .and t P (.int k a) (.int k b)=some (.int k (k.wrap (BitVec.ofInt k.bits a &&& BitVec.ofInt k.bits b).toNat)):=by simp [Qbz,Qd3]
theorem b_or:Qbz .or t P (.int k a) (.int k b)=some (.int k (k.wrap (BitVec.ofInt k.bits a ||| BitVec.ofInt k.bits b).toNat)):=by simp [Qbz,Qd3]
theorem Zqk:Qbz .eql t P (.int k a) (.int k b)=some (.bool (a==b)):=by simp [Qbz,Qd3,Qke]
theorem Zql:Qbz .neq t P (.int k a) (.int k b)=some (.bool (a != b)):=by simp [Qbz,Qd3,Qke]
theorem Zqm:Qbz .lss t P (.int k a) (.int k b)=some (.bool (decide (a<b))):=by simp [Qbz,Qd3,Qke]
theorem Zqn:Qbz .leq t P (.int k a) (.int k b)=some (.bool (decide (a≤b))):=by simp [Qbz,Qd3,Qke]
theorem Zqo:Qbz .gtr t P (.int k a) (.int k b)=some (.bool (decide (b<a))):=by simp [Qbz,Qd3,Qke]
theorem Zqp:Qbz .geq t P (.int k a) (.int k b)=some (.bool (decide (b≤a))):=by simp [Qbz,Qd3,Qke]
theorem Zqq:Qbz .shl t P (.int k a) (.int k' b)=Qhd .shl k a b:=rfl
theorem Zqr:Qbz .shr t P (.int k a) (.int k' b)=Qhd .shr k a b:=rfl
theorem Zlh (op:BinOp) (x y:ByteArray):Qbz op t P (.str x) (.str y)=Qw2 op x y:=rfl
theorem Zfi (op:BinOp):Qbz op t P .nilS .nilS=Qiz op t P true:=rfl
theorem Zfj (op:BinOp) (es:List PV):Qbz op t P (.slc es) .nilS=match es.isEmpty with
  |true=>none
  |false=>Qiz op t P false:=rfl
theorem Zli (op:BinOp) (b esz off len:Nat):Qbz op t P (.bs b esz off len) .nilS=match Nat.beq len 0 with
  |true=>none
  |false=>Qiz op t P false:=rfl
theorem Zqs (x y:Bool) (h:P.underlying t=some .bool):Qbz .eql t P (.bool x) (.bool y)=some (.bool (x==y)):=by simp [Qbz,h]
theorem Zqt (x y:Bool) (h:P.underlying t=some .bool):Qbz .neq t P (.bool x) (.bool y)=some (.bool (!(x==y))):=by simp [Qbz,h]
end
def Qhi:List Nat→List (Nat×PV)→List (Nat×PV)
 | [],_=>[]
 |t::ks,vs=>match lkp vs t with
  |some v=>(t,v)::Qhi ks vs
  |none=>Qhi ks vs
def St.keep (ks:List Nat) (st:St):St:=⟨fun t=>if ks.contains t then st.var t else none,st.box,st.out,st.yl⟩
theorem Qeb (vs:List (Nat×PV)): ∀(ks:List Nat) (t:Nat),lkp (Qhi ks vs) t=if ks.contains t then lkp vs t else none
 | [],t=>rfl
 |k::ks,t=>by
  unfold Qhi
  by_cases e:t=k
  ·subst e
   cases h:lkp vs t with
   |none=>
    rw [Qeb vs ks t,h];simp
   |some v=>simp [lkp]
  ·have hne: ¬k=t:=fun x=>e x.symm
   cases h:lkp vs k with
   |none=>simp only [Qeb vs ks t];simp [e]
   |some v=>simp only [lkp,e,if_false,Qeb vs ks t];simp [e]
theorem Zlj (ks:List Nat) (vs:List (Nat×PV)) (bs:List (Nat×Box)) (o:List (List PV)) (y:Yl):(St.ofG vs bs o y).keep ks=St.ofG (Qhi ks vs) bs o y:=by
 refine St.ext' ?_ rfl rfl rfl
 funext t
 simp only [St.keep,St.ofG,Qeb]
theorem Zlk (ks:List Nat) (st:St):Le st (st.keep ks):=by
 rintro C a w ⟨ρ,im,h⟩
 refine⟨ρ,im,h.root,h.nt,h.dfr,h.imc,?_,h.rho,h.box,h.inj⟩
 intro t v hv
 simp only [St.keep]at hv
 split at hv
 ·exact h.var t v hv
 ·cases hv
def Q7v:Bool→Array Oper→List Acc→Prop
 |false,_,_=>True
 |true,ops,accs=>Qko ops accs.reverse=true
def Q7w (x:Option PV) (yes no:Unit→Prop):Prop:=match x with
 |some (.bool true)=>yes ()
 |some (.bool false)=>no ()
 |_=>False
def vx (P:Program) (tb:Tab) (nt:Nat) (ks:List Nat):Code→(Exit→St→Prop)→St→Prop
 | .skip,Q,st=>Q .normal st
 | .label _,Q,st=>Q .normal st
 | .exit id,Q,st=>Q (.exit id) st
 | .ret,Q,st=>Q .ret st
 | .seq a b,Q,st=>vx P tb nt ks a (vthen (vx P tb nt ks b Q) Q) st
 | .region id ops draw,Q,st=>100*id+ops.toList.length≤LENT∧vops P tb ops nt (100*id) 0 ops.toList st [] fun st' accs=>Q7v draw ops accs∧Q .normal (st'.keep ks)
 | .cond c a b,Q,st=>Q7w (st.ev c) (fun _=>vx P tb nt ks a Q st) (fun _=>vx P tb nt ks b Q st)
 | .block id c,Q,st=>vx P tb nt ks c (vblock id Q) st
 | .loop c,Q,st=>Vwp P nt (.loop c) Q st
 | .rangeFunc f ps a c,Q,st=>Vwp P nt (.rangeFunc f ps a c) Q st
 | .scope c,Q,st=>Vwp P nt (.scope c) Q st
 | .goto l,Q,st=>Vwp P nt (.goto l) Q st
 | .refuse s,Q,st=>Vwp P nt (.refuse s) Q st
theorem Qb1 {P:Program} {tb:Tab} {nt:Nat} {ks:List Nat} (hm:P.follows .mixedOrders=true): ∀(c:Code) (Q:Exit→St→Prop) (st:St),vx P tb nt ks c Q st→Vwp P nt c Q st
 | .skip,Q,st,h=>Qxl h
 | .label _,Q,st,h=>Qs7 h
 | .exit id,Q,st,h=>Qxm h
 | .ret,Q,st,h=>Q7l h
 | .seq a b,Q,st,h=>Qvb (Qda (Qb1 hm a _ st h) fun e s q=>by
   cases e with
   |normal=>exact Qb1 hm b Q s q
   |_=>exact q)
 | .region id ops draw,Q,st,⟨hL,h⟩=>fun C h1 h2 rd a w hr=>by
   have:=Qos (tb:=tb) (id:=id) (draw:=draw) (ops:=ops) (Q:=fun e s=>Q e (s.keep ks)) (100*id) hm (by simpa using hL) (Qfn (fun s l ⟨k1,k2⟩=>⟨fun hd=>by subst hd;exact k1,k2⟩) _ _ _ _ h) C h1 h2 rd a w hr
   exact wpIn_mono this fun e a' w' ⟨s,q,r⟩=>⟨_,q,Zlk ks s C a' w' r⟩
 | .cond c a b,Q,st,h=>by
   simp only [vx]at h
   unfold Q7w at h
   split at h
   ·rename_i ht
    exact Qlk ht (by simpa using Qb1 hm a Q st h)
   ·rename_i ht
    exact Qlk ht (by simpa using Qb1 hm b Q st h)
   ·exact h.elim
 | .block id c,Q,st,h=>Qs8 (Qb1 hm c _ st h)
 | .loop _,_,_,h=>h
 | .rangeFunc _ _ _ _,_,_,h=>h
 | .scope _,_,_,h=>h
 | .goto _,_,_,h=>h
 | .refuse _,_,_,h=>h
inductive It where
 |code (c:Code)
 |blk (id:Nat)
 |again (J:St→Prop)
mutual
def go (P:Program) (tb:Tab) (nt:Nat) (ks:List Nat):List It→(Exit→St→Prop)→St→Prop
 | [],Q,st=>Q .normal st
 | .blk _::k,Q,st=>go P tb nt ks k Q st
 | .again J::_,_,st=>J st
 | .code c::k,Q,st=>vx P tb nt ks c (fun e s=>gleave P tb nt ks k Q e s) st
def gleave (P:Program) (tb:Tab) (nt:Nat) (ks:List Nat):List It→(Exit→St→Prop)→Exit→St→Prop
 | [],Q,e,st=>Q e st
 | .blk j::k,Q,e,st=>match e with
  | .exit i=>if i=j then go P tb nt ks k Q st else gleave P tb nt ks k Q (.exit i) st
  | .normal=>go P tb nt ks k Q st
  |e=>gleave P tb nt ks k Q e st
 | .again J::k,Q,e,st=>match e with
  | .normal=>J st
  |e=>gleave P tb nt ks k Q e st
 | .code c::k,Q,e,st=>match e with
  | .normal=>vx P tb nt ks c (fun e s=>gleave P tb nt ks k Q e s) st
  |e=>gleave P tb nt ks k Q e st
end
section
variable {P:Program} {tb:Tab} {nt:Nat} {ks:List Nat} (k:List It) (Q:Exit→St→Prop) (st:St)
theorem Qci: ∀(k:List It) (Q:Exit→St→Prop) (st:St),gleave P tb nt ks k Q .normal st=go P tb nt ks k Q st
 | [],Q,st=>by simp only [gleave,go]
 | .blk _::k,Q,st=>by simp only [gleave,go]
 | .again _::k,Q,st=>by simp only [gleave,go]
 | .code _::k,Q,st=>by simp only [gleave,go]
theorem Zqu:go P tb nt ks [] Q st=Q .normal st:=by simp only [go]
theorem Zqv (id:Nat):go P tb nt ks (.blk id::k) Q st=go P tb nt ks k Q st:=by simp only [go]
theorem Zll (J:St→Prop):go P tb nt ks (.again J::k) Q st=J st:=by simp only [go]
theorem Zos:go P tb nt ks (.code .skip::k) Q st=go P tb nt ks k Q st:=by simp only [go,vx,Qci]
theorem Zlm (l:Nat):go P tb nt ks (.code (.label l)::k) Q st=go P tb nt ks k Q st:=by simp only [go,vx,Qci]
theorem Zqw (a b:Code):go P tb nt ks (.code (.seq a b)::k) Q st=go P tb nt ks (.code a:: .code b::k) Q st:=by
 simp only [go,vx]
 congr 1
 funext e s
 cases e<;>simp only [vthen,gleave]
theorem Zln (id:Nat) (c:Code):go P tb nt ks (.code (.block id c)::k) Q st=go P tb nt ks (.code c:: .blk id::k) Q st:=by
 simp only [go,vx]
 congr 1
 funext e s
 cases e<;>simp only [vblock,gleave,Qci]
def gexit (P:Program) (tb:Tab) (nt:Nat) (ks:List Nat) (i:Nat) (k:List It) (Q:Exit→St→Prop) (st:St):Prop:=gleave P tb nt ks k Q (.exit i) st
theorem Zot (i:Nat):go P tb nt ks (.code (.exit i)::k) Q st=gexit P tb nt ks i k Q st:=by simp only [go,vx,gexit]
theorem Q7x (i j:Nat):gexit P tb nt ks i (.blk j::k) Q st=if i=j then go P tb nt ks k Q st else gexit P tb nt ks i k Q st:=by simp only [gexit,gleave]
theorem Qz6 (i:Nat) (c:Code):gexit P tb nt ks i (.code c::k) Q st=gexit P tb nt ks i k Q st:=by simp only [gexit,gleave]
theorem Qvh (i:Nat) (J:St→Prop):gexit P tb nt ks i (.again J::k) Q st=gexit P tb nt ks i k Q st:=by simp only [gexit,gleave]
theorem Q7y (i:Nat):gexit P tb nt ks i [] Q st=Q (.exit i) st:=by simp only [gexit,gleave]
theorem Qfo: ∀(k:List It) (Q:Exit→St→Prop) (st:St),gleave P tb nt ks k Q .ret st=Q .ret st
 | [],Q,st=>by simp only [gleave]
 | .blk _::k,Q,st=>by simp only [gleave,Qfo k]
 | .again _::k,Q,st=>by simp only [gleave,Qfo k]
 | .code _::k,Q,st=>by simp only [gleave,Qfo k]
theorem Zqx:go P tb nt ks (.code .ret::k) Q st=Q .ret st:=by simp only [go,vx,Qfo]
def gcond (P:Program) (tb:Tab) (nt:Nat) (ks:List Nat) (x:Option PV) (a b:Code) (k:List It) (Q:Exit→St→Prop) (st:St):Prop:=
 Q7w x (fun _=>go P tb nt ks (.code a::k) Q st) (fun _=>go P tb nt ks (.code b::k) Q st)
theorem Zou (c:Operand) (a b:Code):go P tb nt ks (.code (.cond c a b)::k) Q st=gcond P tb nt ks (st.ev c) a b k Q st:=by simp only [go,vx,gcond]
theorem Qz7 (a b:Code):gcond P tb nt ks (some (.bool true)) a b k Q st=go P tb nt ks (.code a::k) Q st:=rfl
theorem Qvi (a b:Code):gcond P tb nt ks (some (.bool false)) a b k Q st=go P tb nt ks (.code b::k) Q st:=rfl
def gops (P:Program) (tb:Tab) (nt:Nat) (ks:List Nat) (ops:Array Oper) (base i:Nat) (rest:List Oper) (accs:List Acc) (draw:Bool) (k:List It) (Q:Exit→St→Prop) (st:St):Prop:=
 vops P tb ops nt base i rest st accs fun st' accs=>Q7v draw ops accs∧go P tb nt ks k Q (st'.keep ks)
def gwanted (P:Program) (tb:Tab) (nt:Nat) (ks:List Nat) (x:Option Bool) (ops:Array Oper) (base i:Nat) (o:Oper) (rest:List Oper) (accs:List Acc) (draw:Bool) (k:List It) (Q:Exit→St→Prop) (st:St):Prop:=
 Qf3 x (fun _=>gops P tb nt ks ops base (i+1) rest ([]::accs) draw k Q (st.put o.dst (.tup [])))
  (fun _=>Qna (st.evs o.op.operands.toList) fun vs=>Qz2 P st.out st.yl (Qa3 P tb (base+i) o.op vs st.box) fun v es l=>gops P tb nt ks ops base (i+1) rest (l::accs) draw k Q ((Qao es st).put o.dst v))
def gvals (P:Program) (tb:Tab) (nt:Nat) (ks:List Nat) (x:Option (List PV)) (ops:Array Oper) (base i:Nat) (o:Oper) (rest:List Oper) (accs:List Acc) (draw:Bool) (k:List It) (Q:Exit→St→Prop) (st:St):Prop:=
 Qna x fun vs=>Qz2 P st.out st.yl (Qa3 P tb (base+i) o.op vs st.box) fun v es l=>gops P tb nt ks ops base (i+1) rest (l::accs) draw k Q ((Qao es st).put o.dst v)
def gout (P:Program) (tb:Tab) (nt:Nat) (ks:List Nat) (x:Option (Out×Acc)) (ops:Array Oper) (base i:Nat) (dst:Option Tmp) (rest:List Oper) (accs:List Acc) (draw:Bool) (k:List It) (Q:Exit→St→Prop) (st:St):Prop:=
 Qz2 P st.out st.yl x fun v es l=>gops P tb nt ks ops base (i+1) rest (l::accs) draw k Q ((Qao es st).put dst v)
def gcall (P:Program) (tb:Tab) (nt:Nat) (ks:List Nat) (f:FuncId) (args:List PV) (es:List Eff) (l:Acc) (ops:Array Oper) (base i:Nat) (dst:Option Tmp) (rest:List Oper) (accs:List Acc) (draw:Bool) (k:List It) (Q:Exit→St→Prop)
  (st:St):Prop:=vcall P f args fun r=>gops P tb nt ks ops base (i+1) rest (l::accs) draw k Q ((Qao (if Qgb r then []else es) st).put dst r)
theorem Zfk (id:Nat) (l:List Oper) (draw:Bool):go P tb nt ks (.code (.region id l.toArray draw)::k) Q st=(100*id+l.length≤LENT∧gops P tb nt ks l.toArray (100*id) 0 l [] draw k Q st):=by
 simp only [go,vx,gops,Qci]
variable (ops:Array Oper) (base i:Nat) (o:Oper) (rest:List Oper) (accs:List Acc) (draw:Bool)
theorem Zfl:gops P tb nt ks ops base i [] accs draw k Q st=(Q7v draw ops accs∧go P tb nt ks k Q (st.keep ks)):=by simp only [gops,vops]
theorem Q7z:gops P tb nt ks ops base i (o::rest) accs draw k Q st=(Qs9 nt o=true∧gwanted P tb nt ks (Qb6 ops o st) ops base i o rest accs draw k Q st):=by simp only [gops,vops,gwanted]
theorem Qqw:gwanted P tb nt ks (some false) ops base i o rest accs draw k Q st=gops P tb nt ks ops base (i+1) rest ([]::accs) draw k Q (st.put o.dst (.tup [])):=rfl
theorem Qtc:gwanted P tb nt ks (some true) ops base i o rest accs draw k Q st=gvals P tb nt ks (st.evs o.op.operands.toList) ops base i o rest accs draw k Q st:=rfl
theorem Qz8 (vs:List PV):gvals P tb nt ks (some vs) ops base i o rest accs draw k Q st=gout P tb nt ks (Qa3 P tb (base+i) o.op vs st.box) ops base i o.dst rest accs draw k Q st:=rfl
theorem Q70 (dst:Option Tmp) (v:PV) (es:List Eff) (l:Acc):gout P tb nt ks (some (.done v es,l)) ops base i dst rest accs draw k Q st=
  gops P tb nt ks ops base (i+1) rest ((l++Qca es)::accs) draw k Q ((Qao es st).put dst v):=rfl
theorem Q71 (dst:Option Tmp) (f:FuncId) (args:List PV) (es:List Eff) (l:Acc):gout P tb nt ks (some (.call f args es,l)) ops base i dst rest accs draw k Q st=
  gcall P tb nt ks f args es (l++Qca es) ops base i dst rest accs draw k Q st:=rfl
def Q72 (P:Program) (tb:Tab) (nt:Nat) (ks:List Nat) (f:FuncId) (args:List PV) (bxs:List (Nat×Box)) (es:List Eff) (θ ν:List (Nat×Nat)) (l:Acc) (ops:Array Oper) (base i:Nat) (dst:Option Tmp) (rest:List Oper) (accs:List Acc) (draw:Bool) (k:List It) (Q:Exit→St→Prop)
  (st:St):Prop:= ∃r bxs' r' ef,Qco P f args bxs r bxs'∧land θ ν bxs' r=some (r',ef)∧gops P tb nt ks ops base (i+1) rest ((l++Qca es++Qca ef)::accs) draw k Q ((Qao ((if Qkz r bxs' then []else es)++ef) st).put dst r')
def gland (P:Program) (tb:Tab) (nt:Nat) (ks:List Nat) (x:Option (PV×List Eff)) (fl:Bool) (es:List Eff) (l:Acc) (ops:Array Oper) (base i:Nat) (dst:Option Tmp) (rest:List Oper) (accs:List Acc) (draw:Bool) (k:List It) (Q:Exit→St→Prop)
  (st:St):Prop:=match x with
 |some (r',ef)=>gops P tb nt ks ops base (i+1) rest ((l++Qca es++Qca ef)::accs) draw k Q ((Qao ((if fl then []else es)++ef) st).put dst r')
 |none=>False
theorem Qz9 (dst:Option Tmp) (f:FuncId) (args:List PV) (bxs:List (Nat×Box)) (es:List Eff) (θ ν:List (Nat×Nat)) (l:Acc):gout P tb nt ks (some (.callB f args bxs es θ ν,l)) ops base i dst rest accs draw k Q st=
  Q72 P tb nt ks f args bxs es θ ν l ops base i dst rest accs draw k Q st:=rfl
theorem Qou (dst:Option Tmp) (n stop:Nat) (args:List PV) (es:List Eff) (l:Acc):gout P tb nt ks (some (.yield n stop args es,l)) ops base i dst rest accs draw k Q st=
  (yOk st.yl n stop st.out args∧gops P tb nt ks ops base (i+1) rest ((l++Qca es++[(YID,true)])::accs) draw k Q ((Qao (es++[.yld args]) st).put dst (.bool (decide (st.out.length<stop))))):=rfl
theorem Qby {dst:Option Tmp} {f:FuncId} {args:List PV} {bxs:List (Nat×Box)} {es:List Eff} {θ ν:List (Nat×Nat)} {l:Acc} {r:PV} {bxs':List (Nat×Box)} (hs:Qco P f args bxs r bxs')
  (h:gland P tb nt ks (land θ ν bxs' r) (Qkz r bxs') es l ops base i dst rest accs draw k Q st):Q72 P tb nt ks f args bxs es θ ν l ops base i dst rest accs draw k Q st:=by
 unfold gland at h
 split at h
 ·rename_i r' ef hl;exact⟨r,bxs',r',ef,hs,hl,h⟩
 ·exact h.elim
theorem Q0a (r':PV) (ef:List Eff) (fl:Bool) (es:List Eff) (l:Acc) (dst:Option Tmp):gland P tb nt ks (some (r',ef)) fl es l ops base i dst rest accs draw k Q st=
  gops P tb nt ks ops base (i+1) rest ((l++Qca es++Qca ef)::accs) draw k Q ((Qao ((if fl then []else es)++ef) st).put dst r'):=rfl
theorem Qaf {dst:Option Tmp} {f:FuncId} {args:List PV} {es:List Eff} {l:Acc} {r:PV} (hs:Qag P f args r)
  (h:gops P tb nt ks ops base (i+1) rest (l::accs) draw k Q ((Qao (if Qgb r then []else es) st).put dst r)):gcall P tb nt ks f args es l ops base i dst rest accs draw k Q st:=⟨r,hs,h⟩
theorem Qvj:Q7v false ops accs=True:=rfl
theorem Qaa (h:Qko ops accs.reverse=true):Q7v true ops accs:=h
end
theorem Zfm (P:Program) (rs:List ResultVar) (R:PV→Prop) (s:St):vret P rs R .ret s=match Qqq P rs s with|some r=>R r|none=>False:=rfl
theorem Qvk (P:Program) (rs:List ResultVar) (R:PV→Prop) (s:St):vret P rs R .normal s=match Qqq P rs s with|some r=>R r|none=>False:=rfl
def Zlo (x:Option (List PV×Acc)) (bs:List (Nat×Box)) (o:List (List PV)) (y:Yl) (r:PV) (bxs':List (Nat×Box)):Prop:=match x with
 |some (xs,_)=>Le (St.ofG [(0,Qnb xs)] bs o y) (St.ofG [(0,r)] bxs' o y)
 |none=>False
theorem Q0b (xs:List PV) (l:Acc) (bs:List (Nat×Box)) (o:List (List PV)) (y:Yl) (r:PV) (bxs':List (Nat×Box)):Zlo (some (xs,l)) bs o y r bxs'=Le (St.ofG [(0,Qnb xs)] bs o y) (St.ofG [(0,r)] bxs' o y):=rfl
theorem Qbl {P:Program} {rs:List ResultVar} {r:PV} {bxs':List (Nat×Box)} {vs:List (Nat×PV)} {bs:List (Nat×Box)} {o:List (List PV)} {y:Yl} {e:Exit} (he:e= .ret∨e= .normal)
  (h:Zlo (Qe5 P (St.ofG vs bs o y) rs (lkp bs)) bs o y r bxs'):Q7p P rs r bxs' e (St.ofG vs bs o y):=by
 unfold Zlo at h
 split at h
 ·rename_i xs l hx
  rcases he with rfl|rfl
  ·exact⟨xs,l,hx,h⟩
  ·exact⟨xs,l,hx,h⟩
 ·exact h.elim
theorem Qac {P:Program} {tb:Tab} {f:FuncId} {fn:Func} {c:Code} {args:List PV} {r:PV} (nt:Nat) (rs:List ResultVar) (ks:List Nat) (hm:P.follows .mixedOrders=true) (hf:P.funcs[f]? =some fn) (hb:fn.body=some c)
  (hc:callable P f=true) (hnt:fn.ntmps=nt) (hrs:fn.results.toList=rs) (hn:Nat.ble args.length nt=true)
  (h:go P tb nt ks [.code c] (vret P rs (· =r)) (St.of (Qbw 0 args) [])):Qag P f args r:=
 Qqr nt rs hf hb hc hnt hrs hn (Qb1 (tb:=tb) (ks:=ks) hm c _ _ (by
  simp only [go]at h
  have:(fun e s=>gleave P tb nt ks [] (vret P rs (· =r)) e s)=vret P rs (· =r):=by funext e s;simp only [gleave]
  rwa [this]at h))
theorem Qb7 {P:Program} {tb:Tab} {f:FuncId} {fn:Func} {c:Code} {args:List PV} {bxs bxs':List (Nat×Box)} {r:PV} (nt:Nat) (rs:List ResultVar) (ks:List Nat) (hm:P.follows .mixedOrders=true) (hf:P.funcs[f]? =some fn) (hb:fn.body=some c)
  (hc:callable P f=true) (hnt:fn.ntmps=nt) (hrs:fn.results.toList=rs) (hn:Nat.ble args.length nt=true) (hL:(bxs.all fun p=>Nat.ble LENT p.1)=true)
  (h:go P tb nt ks [.code c] (Q7p P rs r bxs') (St.of (Qbw 0 args) bxs)):Qco P f args bxs r bxs':=
 Q7q nt rs hf hb hc hnt hrs hn hL (Qb1 (tb:=tb) (ks:=ks) hm c _ _ (by
  simp only [go]at h
  have:(fun e s=>gleave P tb nt ks [] (Q7p P rs r bxs') e s)=Q7p P rs r bxs':=by funext e s;simp only [gleave]
  rwa [this]at h))
theorem Qar {P:Program} {tb:Tab} {nt:Nat} {ks:List Nat} {k:List It} {Q:Exit→St→Prop} {st:St} {α:Type} (hm:P.follows .mixedOrders=true) (I:α→St) (μ:α→Nat) {c:Code} (x0:α) (h0:Le st (I x0))
  (round: ∀x,go P tb nt ks (.code c:: .again (fun s=> ∃y,μ y<μ x∧Le s (I y))::k) Q (I x)):go P tb nt ks (.code (.loop c)::k) Q st:=by
 simp only [go,vx]
 refine Qqn I μ x0 h0 fun x=>Qda (Qb1 (tb:=tb) (ks:=ks) hm c _ _ (by have:=round x;simpa only [go]using this)) ?_
 intro e s h
 cases e<;>simpa only [gleave,vthen]using h
end Go.Vl

namespace Go.Vl
abbrev Vars:=List (Nat×PV)
abbrev BoxL:=List (Nat×Box)
def insL {α:Type}:List (Nat×α)→Nat→α→List (Nat×α)
 | [],k,v=>[(k,v)]
 |(j,x)::l,k,v=>match Nat.beq j k with
  |true=>(k,v)::l
  |false=>(j,x)::insL l k v
theorem Qxp {α:Type}: ∀(l:List (Nat×α)) (k:Nat) (v:α),lkp (insL l k v)=upd (lkp l) k (some v)
 | [],k,v=>by funext j;simp [insL,lkp,upd]
 |(i,x)::l,k,v=>by
  funext j
  have ih:=congrFun (Qxp l k v) j
  simp only [insL]
  cases h:Nat.beq i k with
  |true=>
   have:=Nat.eq_of_beq_eq_true h
   subst this
   simp only [lkp,upd]
   split<;>simp_all
  |false=>
   have hne: ¬i=k:=fun e=>by subst e;simp [Nat.beq_refl]at h
   simp only [lkp,upd,ih]
   by_cases e1:j=i<;>by_cases e2:j=k<;>simp_all
noncomputable def frcN {α:Type} (n:Nat) (k:Nat→α):α:= @Nat.rec (fun _=>α) (k 0) (fun m _=>k (Nat.succ m)) n
theorem Qf6 {α:Type} (n:Nat) (k:Nat→α):frcN n k=k n:=by cases n<;>rfl
noncomputable def frcI {α:Type} (n:Int) (k:Int→α):α:= @Int.rec (fun _=>α) (fun m=>frcN m fun m=>k (.ofNat m)) (fun m=>frcN m fun m=>k (.negSucc m)) n
theorem Zlp {α:Type} (n:Int) (k:Int→α):frcI n k=k n:=by cases n<;>simp [frcI,Qf6]
noncomputable def frcB {α:Type} (b:Bool) (k:Bool→α):α:= @Bool.rec (fun _=>α) (k false) (k true) b
theorem Q73 {α:Type} (b:Bool) (k:Bool→α):frcB b k=k b:=by cases b<;>rfl
noncomputable def frcL {α β:Type} (f:β→(β→α)→α) (l:List β):(List β→α)→α:=
 @List.rec β (fun _=>(List β→α)→α) (fun K=>K []) (fun v _ ih K=>f v fun v=>ih fun vs=>K (v::vs)) l
theorem Qvl {α β:Type} {f:β→(β→α)→α} (hf: ∀v K,f v K=K v) (l:List β) (K:List β→α):frcL f l K=K l:=by
 induction l generalizing K with
 |nil=>rfl
 |cons v vs ih=>
  show f v (fun v=>frcL f vs fun vs=>K (v::vs))=K (v::vs)
  rw [hf,ih]
noncomputable def frc1 {α:Type} (rec:PV→(PV→α)→α) (v:PV) (K:PV→α):α:= @PV.casesOn (fun _=>α) v
 (fun b=>frcB b fun b=>K (.bool b)) (fun k n=>frcI n fun n=>K (.int k n)) (fun s=>K (.str s)) (K .nilS)
 (fun es=>frcL rec es fun es=>K (.slc es)) (fun es=>frcL rec es fun es=>K (.agg es)) (fun es=>frcL rec es fun es=>K (.tup es))
 (fun f a c=>frcN f fun f=>frcL rec a fun a=>frcL rec c fun c=>K (.fn f a c)) (K .nilF) (fun es=>frcL rec es fun es=>K (.rp es))
 (fun b e i o=>frcN b fun b=>frcN e fun e=>frcN i fun i=>frcN o fun o=>K (.bp b e i o))
 (fun b e i o=>frcN b fun b=>frcN e fun e=>frcN i fun i=>frcN o fun o=>K (.bs b e i o)) (K .undef) (fun l s=>K (.yld l s)) (K .nilI)
noncomputable def frc {α:Type} (d:Nat):PV→(PV→α)→α:= @Nat.rec (fun _=>PV→(PV→α)→α) (fun v K=>K v) (fun _ ih=>frc1 ih) d
theorem Qtd {α:Type} (d:Nat) (v:PV) (K:PV→α):frc d v K=K v:=by
 induction d generalizing v K with
 |zero=>rfl
 |succ d ih=>
  show frc1 (frc d) v K=K v
  cases v<;>simp only [frc1,Q73,Zlp,Qf6,Qvl ih]
noncomputable def Qkr {α:Type} (B:Box) (K:Box→α):α:=match B with
 |⟨els,esz,ety,fro,live,arr⟩=>frcL (frc 6) els fun els=>frcN esz fun esz=>frcN fro fun fro=>frcB live fun live=>frcB arr fun arr=>K ⟨els,esz,ety,fro,live,arr⟩
theorem Qg1 {α:Type} (B:Box) (K:Box→α):Qkr B K=K B:=by cases B;simp only [Qkr,Q73,Qf6,Qvl (Qtd 6)]
theorem Qvm (m t j:Nat):(m ||| 2^t).testBit j=(m.testBit j||decide (t=j)):=by rw [Nat.testBit_or,Nat.testBit_two_pow]
noncomputable def frcS {α β:Type} (l:List (Nat×β)):Nat→(List (Nat×β)→α)→α:=
 @List.rec (Nat×β) (fun _=>Nat→(List (Nat×β)→α)→α) (fun _ K=>K []) (fun p _ ih m K=> @Bool.rec (fun _=>α) (frcN (m ||| 2^p.1) fun m=>ih m fun l=>K (p::l)) (ih m K) (m.testBit p.1)) l
theorem Zlq {α β:Type} (l:List (Nat×β)) (m:Nat) (K:List (Nat×β)→α): ∃l',frcS l m K=K l'∧ ∀t,m.testBit t=false→lkp l' t=lkp l t:=by
 induction l generalizing m K with
 |nil=>exact⟨[],rfl,fun _ _=>rfl⟩
 |cons p l ih=>
  have e:frcS (p::l) m K= @Bool.rec (fun _=>α) (frcN (m ||| 2^p.1) fun m=>frcS l m fun l=>K (p::l)) (frcS l m K) (m.testBit p.1):=rfl
  rw [e]
  cases hb:m.testBit p.1 with
  |true=>
   obtain⟨l',h1,h2⟩:=ih m K
   refine⟨l',h1,fun t ht=> ?_⟩
   have hne: ¬t=p.1:=fun e=>by rw [e,hb]at ht;cases ht
   rw [h2 t ht]
   simp [lkp,hne]
  |false=>
   simp only [Qf6]
   obtain⟨l',h1,h2⟩:=ih (m ||| 2^p.1) fun l=>K (p::l)
   refine⟨_,h1,fun t ht=> ?_⟩
   obtain⟨k,v⟩:=p
   simp only [lkp]
   by_cases hk:t=k
   ·simp [hk]
   ·simp only [if_neg hk]
    exact h2 t (by rw [Qvm,ht];simp;exact fun x=>hk x.symm)
theorem Zqy {α β:Type} (l:List (Nat×β)) (K:List (Nat×β)→α): ∃l',frcS l 0 K=K l'∧lkp l'=lkp l:=by
 obtain⟨l',h1,h2⟩:=Zlq l 0 K
 exact⟨l',h1,funext fun t=>h2 t (by simp)⟩
noncomputable def effB {α:Type} (e:Eff) (bs:BoxL) (K:BoxL→Option α):Option α:=match e with
 | .new b B=>Qkr B fun B=>K (insL bs b B)
 | .wr b i v=>match lkp bs b with
  |some B=>Qkr {B with els:=B.els.set i v} fun B=>K (insL bs b B)
  |none=>K bs
 | .fro b n=>match lkp bs b with
  |some B=>Qkr {B with fro:=max B.fro n,live:=B.live&&true} fun B=>K (insL bs b B)
  |none=>K bs
 | .kill b=>match lkp bs b with
  |some B=>Qkr {B with els:=[],fro:=0,live:=false} fun B=>K (insL bs b B)
  |none=>K bs
 | .yld _=>none
noncomputable def Zfn {α:Type}:List Eff→BoxL→(BoxL→Option α)→Option α
 | [],bs,K=>K bs
 |e::es,bs,K=>effB e bs fun bs=>Zfn es bs K
theorem Zlr {α:Type} (e:Eff) (vs:Vars) (bs:BoxL) (K:BoxL→Option α) {x:α} (h:effB e bs K=some x): ∃bs',K bs'=some x∧e.on (St.of vs bs)=St.of vs bs':=by
 have hs: ∀b B,(St.of vs bs).setBox b B=St.of vs (insL bs b B):=fun b B=>by simp only [St.setBox,St.of,St.ofG,Qxp]
 cases e with
 |new b B=>simp only [effB,Qg1]at h;exact⟨_,h,hs _ _⟩
 |wr b i v=>
  simp only [effB]at h
  simp only [Eff.on,Qex]
  cases hb:lkp bs b with
  |some B=>simp only [hb,Qg1]at h;exact⟨_,h,hs _ _⟩
  |none=>simp only [hb]at h;exact⟨_,h,rfl⟩
 |fro b n=>
  simp only [effB]at h
  simp only [Eff.on,Qex]
  cases hb:lkp bs b with
  |some B=>simp only [hb,Qg1]at h;exact⟨_,h,hs _ _⟩
  |none=>simp only [hb]at h;exact⟨_,h,rfl⟩
 |kill b=>
  simp only [effB]at h
  simp only [Eff.on,Qex]
  cases hb:lkp bs b with
  |some B=>simp only [hb,Qg1]at h;exact⟨_,h,hs _ _⟩
  |none=>simp only [hb]at h;exact⟨_,h,rfl⟩
 |yld x=>cases h
theorem Qqx {α:Type}: ∀(es:List Eff) (vs:Vars) (bs:BoxL) (K:BoxL→Option α) {x:α},Zfn es bs K=some x→ ∃bs',K bs'=some x∧Qao es (St.of vs bs)=St.of vs bs'
 | [],vs,bs,K,x,h=>⟨bs,h,rfl⟩
 |e::es,vs,bs,K,x,h=>by
  obtain⟨bs1,h1,h2⟩:=Zlr e vs bs _ h
  obtain⟨bs2,h3,h4⟩:=Qqx es vs bs1 K h1
  refine⟨bs2,h3,?_⟩
  rw [Qa2,h2,h4]
def putL (vs:Vars):Option Tmp→PV→Vars
 |some t,v=>(t,v)::vs
 |none,_=>vs
theorem Qvn (vs:Vars) (bs:BoxL) (d:Option Tmp) (v:PV):(St.of vs bs).put d v=St.of (putL vs d v) bs:=by
 cases d with
 |none=>rfl
 |some t=>rfl
noncomputable def lkR (l:Vars) (k:Nat):Option PV:= @List.rec (Nat×PV) (fun _=>Option PV) none (fun p _ ih=> @Bool.rec (fun _=>Option PV) ih (some p.2) (Nat.beq k p.1)) l
theorem Zov (l:Vars) (k:Nat):lkR l k=lkp l k:=by
 induction l with
 |nil=>rfl
 |cons p l ih=>
  have e:lkR (p::l) k= @Bool.rec (fun _=>Option PV) (lkR l k) (some p.2) (Nat.beq k p.1):=rfl
  rw [e,ih]
  obtain⟨j,v⟩:=p
  simp only [lkp]
  cases h:Nat.beq k j with
  |true=>simp [Nat.eq_of_beq_eq_true h]
  |false=>
   have hne: ¬k=j:=fun e=>by subst e;simp [Nat.beq_refl]at h
   simp [hne]
noncomputable def evK {α:Type} (vs:Vars) (xs:List Operand):(List PV→Option α)→Option α:=
 @List.rec Operand (fun _=>(List PV→Option α)→Option α) (fun K=>K []) (fun x _ ih K=>
  @Option.rec PV (fun _=>Option α) none (fun v=>ih fun l=>K (v::l)) (@Operand.casesOn (fun _=>Option PV) x (fun t=>lkR vs t) (fun c=>Qd1 c) (fun _=>none) (fun f=>some (.fn f [] [])))) xs
theorem Zow {α:Type} (vs:Vars) (bs:BoxL) (xs:List Operand) (K:List PV→Option α):evK vs xs K=match(St.of vs bs).evs xs with
  |some l=>K l
  |none=>none:=by
 induction xs generalizing K with
 |nil=>rfl
 |cons x xs ih=>
  have e:evK vs (x::xs) K= @Option.rec PV (fun _=>Option α) none (fun v=>evK vs xs fun l=>K (v::l)) (@Operand.casesOn (fun _=>Option PV) x (fun t=>lkR vs t) (fun c=>Qd1 c) (fun _=>none) (fun f=>some (.fn f [] []))):=rfl
  have hx:(@Operand.casesOn (fun _=>Option PV) x (fun t=>lkR vs t) (fun c=>Qd1 c) (fun _=>none) (fun f=>some (.fn f [] [])))=(St.of vs bs).ev x:=by
   cases x<;>simp only [St.ev,St.of,St.ofG,Zov]
  rw [e,hx]
  simp only [St.evs]
  cases (St.of vs bs).ev x with
  |none=>rfl
  |some v=>
   simp only [ih]
   cases (St.of vs bs).evs xs<;>rfl
def invM (κ:List (Nat×Nat)):List (Nat×Nat):=κ.map fun p=>(p.2,p.1)
theorem Q74: ∀(κ:List (Nat×Nat)) (b:Nat),lkp (invM κ) b=rlk κ b
 | [],_=>rfl
 |(k,v)::l,b=>by
  have ih:=Q74 l b
  simp only [invM,List.map_cons,lkp,rlk]at ih ⊢
  rw [ih]
theorem Qjg {κ:List (Nat×Nat)} (hκ:Qd8 κ=true) {b b':Nat} (h:lkp κ b=some b'):lkp (invM κ) b'=some b:=by
 rw [Q74];exact(Qbv hκ).1 h
theorem Zfo {κ:List (Nat×Nat)} (hκ:Qd8 κ=true) {v v':PV} (h:ren0 κ v=some v'):ren0 (invM κ) v'=some v:=by
 cases v with
 |bp b esz i off=>
  simp only [ren0]at h
  split at h
  ·rename_i b' hb;cases h;simp only [ren0,Qjg hκ hb]
  ·cases h
 |bs b esz i off=>
  simp only [ren0]at h
  split at h
  ·rename_i b' hb;cases h;simp only [ren0,Qjg hκ hb]
  ·cases h
 |fn f a c=>
  cases a with
  |nil=>cases c with
   |nil=>cases h;rfl
   |cons=>cases h
  |cons=>cases h
 |agg=>cases h
 |tup=>cases h
 |_=>cases h;rfl
theorem Qjh {κ:List (Nat×Nat)} (hκ:Qd8 κ=true): ∀{vs vs':List PV},Qal κ vs=some vs'→Qal (invM κ) vs'=some vs
 | [],vs',h=>by cases h;rfl
 |v::vs,vs',h=>by
  unfold Qal at h
  split at h
  ·cases h
  ·rename_i x hx
   split at h
   ·cases h
   ·rename_i xs hxs
    cases h
    simp only [Qal,Zfo hκ hx,Qjh hκ hxs]
theorem Qxq {κ:List (Nat×Nat)} (hκ:Qd8 κ=true) {v v':PV} (h:ren1 κ v=some v'):ren1 (invM κ) v'=some v:=by
 cases v with
 |agg cs=>
  simp only [ren1]at h
  split at h
  ·rename_i xs hxs;cases h;simp only [ren1,Qjh hκ hxs]
  ·cases h
 |tup vs=>
  cases vs with
  |nil=>cases h;rfl
  |cons=>cases h
 |fn f a c=>
  simp only [ren1]at h
  split at h
  ·cases h
  ·rename_i x hx
   split at h
   ·cases h
   ·rename_i y hy
    cases h
    simp only [ren1,Qjh hκ hx,Qjh hκ hy]
 |bp b esz i off=>
  have h':ren0 κ (.bp b esz i off)=some v':=h
  simp only [ren0]at h'
  split at h'
  ·rename_i b' hb;cases h';simp only [ren1,ren0,Qjg hκ hb]
  ·cases h'
 |bs b esz i off=>
  have h':ren0 κ (.bs b esz i off)=some v':=h
  simp only [ren0]at h'
  split at h'
  ·rename_i b' hb;cases h';simp only [ren1,ren0,Qjg hκ hb]
  ·cases h'
 |_=>cases h;rfl
def Q75:Nat→BoxL→List (Nat×Nat)
 |_,[]=>[]
 |i,(b,_)::bs=>(b,500000+i)::Q75 (i+1) bs
def renV (κ:List (Nat×Nat)) (vs:Vars):Vars→Vars
 | []=>[]
 |(t,_)::r=>match lkp vs t with
  |some v=>match ren1 κ v with
   |some v'=>(t,v')::renV κ vs r
   |none=>renV κ vs r
  |none=>renV κ vs r
theorem Qqy {κ:List (Nat×Nat)} (hκ:Qd8 κ=true) (vs:Vars): ∀l:Vars,Qad (invM κ) vs (renV κ vs l)
 | []=>trivial
 |(t,_)::r=>by
  unfold renV
  split
  ·rename_i v hv
   split
   ·rename_i v' hv'
    refine⟨?_,Qqy hκ vs r⟩
    rw [hv];exact Qxq hκ hv'
   ·exact Qqy hκ vs r
  ·exact Qqy hκ vs r
def Q76 (κ:List (Nat×Nat)) (B:Box):Option Box:=match B.arr with
 |true=>some B
 |false=>match B.els with
  | [v]=>match ren1 κ v with
   |some v'=>if Qa8 v'.cells=true then some {B with els:=[v']}else none
   |none=>none
  |_=>none
theorem Q77 {κ:List (Nat×Nat)} (hκ:Qd8 κ=true) {B B':Box} (h:Q76 κ B=some B'):Box.renames (invM κ) B' B:=by
 unfold Q76 at h
 cases ha:B.arr with
 |true=>rw [ha]at h;cases h;exact⟨rfl,rfl,rfl,rfl,rfl,.inl ⟨ha,rfl⟩⟩
 |false=>
  rw [ha]at h
  simp only at h
  split at h
  ·rename_i v hv
   split at h
   ·rename_i v' hv'
    split at h
    ·rename_i hok
     cases h
     exact⟨rfl,rfl,rfl,rfl,ha.symm,.inr ⟨rfl,v,v',rfl,hv,Qxq hκ hv',hok⟩⟩
    ·cases h
   ·cases h
  ·cases h
def renB (κ:List (Nat×Nat)) (bs:BoxL):BoxL→Option BoxL
 | []=>some []
 |(b,_)::r=>match lkp κ b,lkp bs b with
  |some b',some B=>match Q76 κ B,renB κ bs r with
   |some B',some l=>some ((b',B')::l)
   |_,_=>none
  |_,_=>none
theorem Q78 {κ:List (Nat×Nat)} (hκ:Qd8 κ=true) (bs:BoxL): ∀(l bs':BoxL),renB κ bs l=some bs'→Qam (invM κ) bs bs'
 | [],bs',h=>by cases h;trivial
 |(b,_)::r,bs',h=>by
  unfold renB at h
  split at h
  ·rename_i b' B hb hB
   split at h
   ·rename_i B' l' hB' hl
    cases h
    refine⟨?_,Q78 hκ bs r l' hl⟩
    rw [Qjg hκ hb]
    simp only [hB]
    exact Q77 hκ hB'
   ·cases h
  ·cases h
def Q79 (vs:Vars) (bs:BoxL):Option (Vars×BoxL):=match renB (Q75 0 bs) bs bs with
 |none=>none
 |some bs'=>match Qd8 (Q75 0 bs)&&Qqo (invM (Q75 0 bs)) bs' with
  |true=>some (renV (Q75 0 bs) vs vs,bs')
  |false=>none
theorem Q8a {vs vs':Vars} {bs bs':BoxL} (h:Q79 vs bs=some (vs',bs')):Le (St.of vs bs) (St.of vs' bs'):=by
 unfold Q79 at h
 split at h
 ·cases h
 ·rename_i bs1 h1
  split at h
  ·rename_i h2
   cases h
   simp only [Bool.and_eq_true]at h2
   exact Qaj h2.2 (Qqy h2.1 vs vs) (Q78 h2.1 bs bs _ h1)
  ·cases h
noncomputable def Zls {α:Type} (l:Vars):(Vars→α)→α:=
 @List.rec (Nat×PV) (fun _=>(Vars→α)→α) (fun K=>K []) (fun p _ ih K=>frcN p.1 fun t=>frc 6 p.2 fun v=>ih fun l=>K ((t,v)::l)) l
theorem Zfp {α:Type} (l:Vars) (K:Vars→α):Zls l K=K l:=by
 induction l generalizing K with
 |nil=>rfl
 |cons p l ih=>
  show frcN p.1 (fun t=>frc 6 p.2 fun v=>Zls l fun l=>K ((t,v)::l))=K (p::l)
  rw [Qf6,Qtd,ih]
noncomputable def Zlt {α:Type} (l:BoxL):(BoxL→α)→α:=
 @List.rec (Nat×Box) (fun _=>(BoxL→α)→α) (fun K=>K []) (fun p _ ih K=>frcN p.1 fun t=>Qkr p.2 fun v=>ih fun l=>K ((t,v)::l)) l
theorem Zfq {α:Type} (l:BoxL) (K:BoxL→α):Zlt l K=K l:=by
 induction l generalizing K with
 |nil=>rfl
 |cons p l ih=>
  show frcN p.1 (fun t=>Qkr p.2 fun v=>Zlt l fun l=>K ((t,v)::l))=K (p::l)
  rw [Qf6,Qg1,ih]
noncomputable def renK {α:Type} (vs:Vars) (bs:BoxL) (K:Vars→BoxL→α):α:=match bs with
 | []=>K vs []
 |b::r=>match Q79 vs (b::r)with
  |none=>K vs (b::r)
  |some (vs',bs')=>Zls vs' fun vs'=>Zlt bs' fun bs'=>K vs' bs'
theorem Zlu {α:Type} (vs:Vars) (bs:BoxL) (K:Vars→BoxL→α): ∃vs' bs',renK vs bs K=K vs' bs'∧Le (St.of vs bs) (St.of vs' bs'):=by
 unfold renK
 split
 ·exact⟨_,_,rfl,Le.refl _⟩
 ·split
  ·exact⟨_,_,rfl,Le.refl _⟩
  ·rename_i vs' bs' h
   exact⟨vs',bs',by rw [Zfp,Zfq],Q8a h⟩
section
variable (P:Program) (call:FuncId→List PV→Option PV)
noncomputable def Q0c {α:Type} (ops:Array Oper) (nt base:Nat):List Oper→Nat→Vars→BoxL→List Acc→(Vars→BoxL→List Acc→Option α)→Option α
 | [],_,vs,bs,accs,K=>K vs bs accs
 |o::rest,i,vs,bs,accs,K=>match Qs9 nt o with
  |false=>none
  |true=>match Qb6 ops o (St.of vs bs)with
   |none=>none
   |some false=>Q0c ops nt base rest (i+1) (putL vs o.dst (.tup [])) bs ([]::accs) K
   |some true=>evK vs o.op.operands.toList fun xs=>match Qa3 P [] (base+i) o.op xs (lkp bs)with
     |none=>none
     |some (.done v es,l)=>frc 6 v fun v=>Zfn es bs fun bs=>frcN i fun i=>Q0c ops nt base rest (i+1) (putL vs o.dst v) bs ((l++Qca es)::accs) K
     |some (.call f args es,l)=>frcN f fun f=>frcL (frc 6) args fun args=>match call f args with
      |none=>none
      |some r=>frc 6 r fun r=>Zfn (if Qgb r then []else es) bs fun bs=>frcN i fun i=>Q0c ops nt base rest (i+1) (putL vs o.dst r) bs ((l++Qca es)::accs) K
     |some (_,_)=>none
theorem Qf7 (hc: ∀f args r,call f args=some r→Qag P f args r) {α:Type} (ops:Array Oper) (nt base:Nat): ∀(rest:List Oper) (i:Nat) (vs:Vars) (bs:BoxL) (accs:List Acc)
  (K:Vars→BoxL→List Acc→Option α) (x:α),Q0c P call ops nt base rest i vs bs accs K=some x→
  ∃vs' bs' accs',K vs' bs' accs'=some x∧ ∀K':St→List Acc→Prop,K' (St.of vs' bs') accs'→vops P [] ops nt base i rest (St.of vs bs) accs K'
 | [],i,vs,bs,accs,K,x,h=>⟨vs,bs,accs,h,fun K' hk=>hk⟩
 |o::rest,i,vs,bs,accs,K,x,h=>by
  unfold Q0c at h
  cases hd:Qs9 nt o with
  |false=>rw [hd]at h;cases h
  |true=>
   rw [hd]at h
   simp only at h
   cases hw:Qb6 ops o (St.of vs bs)with
   |none=>rw [hw]at h;cases h
   |some b=>
    rw [hw]at h
    cases b with
    |false=>
     obtain⟨vs',bs',accs',h1,h2⟩:=Qf7 hc ops nt base rest (i+1) _ bs ([]::accs) K x h
     refine⟨vs',bs',accs',h1,fun K' hk=> ?_⟩
     simp only [vops]
     refine⟨hd,?_⟩
     rw [hw]
     simp only [Qf3,Qvn]
     exact h2 K' hk
    |true=>
     simp only [Zow vs bs]at h
     cases hv:(St.of vs bs).evs o.op.operands.toList with
     |none=>rw [hv]at h;cases h
     |some xs=>
      rw [hv]at h
      simp only at h
      cases ho:Qa3 P [] (base+i) o.op xs (lkp bs)with
      |none=>rw [ho]at h;cases h
      |some p=>
       obtain⟨y,l⟩:=p
       rw [ho]at h
       cases y with
       |done v es=>
        simp only [Qtd,Qf6]at h
        obtain⟨bs1,e1,e2⟩:=Qqx es vs bs _ h
        replace h:=e1
        obtain⟨vs',bs',accs',h1,h2⟩:=Qf7 hc ops nt base rest (i+1) _ bs1 _ K x h
        refine⟨vs',bs',accs',h1,fun K' hk=> ?_⟩
        simp only [vops]
        refine⟨hd,?_⟩
        rw [hw]
        simp only [Qf3,hv,Qna,Qex,Q7n,Zlb,ho,Qz2,e2,Qvn]
        exact h2 K' hk
       |call f args es=>
        simp only [Qtd,Qf6,Qvl (Qtd 6)]at h
        cases hcl:call f args with
        |none=>rw [hcl]at h;cases h
        |some r=>
         rw [hcl]at h
         simp only at h
         obtain⟨bs1,e1,e2⟩:=Qqx (if Qgb r then []else es) vs bs _ h
         replace h:=e1
         obtain⟨vs',bs',accs',h1,h2⟩:=Qf7 hc ops nt base rest (i+1) _ bs1 _ K x h
         refine⟨vs',bs',accs',h1,fun K' hk=> ?_⟩
         simp only [vops]
         refine⟨hd,?_⟩
         rw [hw]
         simp only [Qf3,hv,Qna,Qex,Q7n,Zlb,ho,Qz2]
         refine⟨r,hc _ _ _ hcl,?_⟩
         simp only []
         rw [e2,Qvn]
         exact h2 K' hk
       |callB=>cases h
       |yield=>cases h
noncomputable def evC (nt:Nat):Nat→Code→Vars→BoxL→Option (Exit×Vars×BoxL)
 |0,_,_,_=>none
 |n+1,c,vs,bs=>match c with
  | .skip=>some (.normal,vs,bs)
  | .label _=>some (.normal,vs,bs)
  | .exit id=>some (.exit id,vs,bs)
  | .ret=>some (.ret,vs,bs)
  | .seq a b=>match evC nt n a vs bs with
   |some (.normal,vs,bs)=>evC nt n b vs bs
   |r=>r
  | .region id ops draw=>match Nat.ble (100*id+ops.size) LENT with
   |false=>none
   |true=>frcN (100*id) fun base=>Q0c P call ops nt base ops.toList 0 vs bs [] fun vs bs accs=>match draw with
   |false=>some (.normal,vs,bs)
   |true=>match Qko ops accs.reverse with
    |false=>none
    |true=>some (.normal,vs,bs)
  | .cond x a b=>match(St.of vs bs).ev x with
   |some (.bool true)=>evC nt n a vs bs
   |some (.bool false)=>evC nt n b vs bs
   |_=>none
  | .block id c=>match evC nt n c vs bs with
   |some (.exit i,vs,bs)=>if i=id then some (.normal,vs,bs)else some (.exit i,vs,bs)
   |r=>r
  | .loop c=>match evC nt n c vs bs with
   |some (.normal,vs,bs)=>frcS vs 0 fun vs=>renK vs bs fun vs bs=>evC nt n (.loop c) vs bs
   |r=>r
  |_=>none
def Lwp (P:Program) (nt:Nat) (c:Code) (Q:Exit→St→Prop) (st:St):Prop:=
 ∀(C:Ctx),C.P=P→C.nt=nt→ ∀(rd:RD C) (a:Act) (w:World),Rel C st a w→ ∀(b:Frame) (k:List Item) (cs:List Frame),b.roundOf=(FW rd.rd).round→(FW rd.rd).fn b.fn→(FW rd.rd).room (cs.length+1+0)→
  ∃e a' w',(∃st',Q e st'∧Rel C st' a' w')∧ArrivesIn (Machine.fenced C.P (FW rd.rd)) C.P (lone (b.atR a (.code c:: .inLoop c::k)) cs w) b k cs e a' w'
theorem Q0d {P:Program} {nt:Nat} {c:Code} {Q:Exit→St→Prop} {st:St} (h:Lwp P nt c Q st):Vwp P nt (.loop c) Q st:=fun C h1 h2 rd a w hr=>by
 subst h1;subst h2
 intro b k cs hro hb hroom
 obtain⟨e,a',w',hq,harr⟩:=h C rfl rfl rd a w hr b k cs hro hb hroom
 exact⟨e,a',w',hq,.of_steps (.one (fenced_calm hb hroom rfl) stepR_loop) harr⟩
theorem Q8b {P:Program} {nt:Nat} {c:Code} {Q:Exit→St→Prop} {st:St} (h:Vwp P nt c (vthen (Lwp P nt c Q) Q) st):Lwp P nt c Q st:=fun C h1 h2 rd a w hr=>by
 subst h1;subst h2
 intro b k cs hro hb hroom
 obtain⟨e,a₁,w₁,⟨s,hq,hr1⟩,harr⟩:=h C rfl rfl rd a w hr b (.inLoop c::k) cs hro hb hroom
 cases e with
 |normal=>
  obtain⟨e₂,a₂,w₂,hq₂,harr₂⟩:=hq C rfl rfl rd a₁ w₁ hr1 b k cs hro hb hroom
  exact⟨e₂,a₂,w₂,hq₂,.of_steps (StepsIn.trans harr (.one (fenced_calm hb hroom rfl) stepR_inLoop)) harr₂⟩
 |exit id=>exact⟨_,a₁,w₁,⟨s,hq,hr1⟩,.pass (x:= .inLoop c) rfl (fun _ _=> .inl (by simp)) harr⟩
 |goto l=>exact⟨_,a₁,w₁,⟨s,hq,hr1⟩,.pass (x:= .inLoop c) rfl (fun _ _=> .inl (by simp)) harr⟩
 |ret=>exact⟨_,a₁,w₁,⟨s,hq,hr1⟩,.pass (x:= .inLoop c) rfl (fun _ _=> .inl (by simp)) harr⟩
 |panic ch=>exact⟨_,a₁,w₁,⟨s,hq,hr1⟩,.pass (x:= .inLoop c) rfl (fun _ _=> .inl (by simp)) harr⟩
 |outgrown=>exact⟨_,a₁,w₁,⟨s,hq,hr1⟩,.pass (x:= .inLoop c) rfl (fun _ _=> .inl (by simp)) harr⟩
def Cwp (P:Program) (nt:Nat) (c:Code) (Q:Exit→St→Prop) (st:St):Prop:=Vwp P nt c Q st∧ ∀c',c= .loop c'→Lwp P nt c' Q st
theorem Qqz (hm:P.follows .mixedOrders=true) (hc: ∀f args r,call f args=some r→Qag P f args r) (nt:Nat): ∀(n:Nat) (c:Code) (vs:Vars) (bs:BoxL) (e:Exit) (vs':Vars) (bs':BoxL),
  evC P call nt n c vs bs=some (e,vs',bs')→ ∀Q:Exit→St→Prop,Q e (St.of vs' bs')→Cwp P nt c Q (St.of vs bs)
 |0,_,_,_,_,_,_,h,_,_=>by cases h
 |n+1,c,vs,bs,e,vs',bs',h,Q,hQ=>by
  have ih:=fun c vs bs e vs' bs' h Q hQ=>(Qqz hm hc nt n c vs bs e vs' bs' h Q hQ).1
  have ihl:=fun c vs bs e vs' bs' h Q hQ=>(Qqz hm hc nt n (.loop c) vs bs e vs' bs' h Q hQ).2 c rfl
  unfold evC at h
  cases c with
  |skip=>cases h;exact⟨Qxl hQ,fun _ e=>by cases e⟩
  |label l=>cases h;exact⟨Qs7 hQ,fun _ e=>by cases e⟩
  |exit id=>cases h;exact⟨Qxm hQ,fun _ e=>by cases e⟩
  |ret=>cases h;exact⟨Q7l hQ,fun _ e=>by cases e⟩
  |seq a b=>
   refine⟨?_,fun _ e=>by cases e⟩
   simp only at h
   cases ha:evC P call nt n a vs bs with
   |none=>rw [ha]at h;cases h
   |some p=>
    obtain⟨e1,vs1,bs1⟩:=p
    rw [ha]at h
    refine Qvb (ih a vs bs e1 vs1 bs1 ha _ ?_)
    cases e1 with
    |normal=>exact ih b vs1 bs1 e vs' bs' h Q hQ
    |_=>cases h;exact hQ
  |region id ops draw=>
   refine⟨?_,fun _ e=>by cases e⟩
   cases hL:Nat.ble (100*id+ops.size) LENT with
   |false=>simp only [hL]at h;cases h
   |true=>
   simp only [hL,Qf6]at h
   obtain⟨vs1,bs1,accs1,h1,h2⟩:=Qf7 P call hc ops nt (100*id) ops.toList 0 vs bs [] _ _ h
   refine Qos (tb:=[]) (100*id) hm (Nat.le_of_ble_eq_true hL) (h2 _ ?_)
   cases draw with
   |false=>cases h1;exact⟨fun x=>absurd x (by decide),hQ⟩
   |true=>
    simp only at h1
    cases hd:Qko ops accs1.reverse with
    |false=>rw [hd]at h1;cases h1
    |true=>rw [hd]at h1;simp only at h1;cases h1;exact⟨fun _=>rfl,hQ⟩
  |cond x a b=>
   refine⟨?_,fun _ e=>by cases e⟩
   simp only at h
   split at h
   ·rename_i hx;exact Qlk hx (by simpa using ih a vs bs e vs' bs' h Q hQ)
   ·rename_i hx;exact Qlk hx (by simpa using ih b vs bs e vs' bs' h Q hQ)
   ·cases h
  |block id c=>
   refine⟨?_,fun _ e=>by cases e⟩
   simp only at h
   cases ha:evC P call nt n c vs bs with
   |none=>rw [ha]at h;cases h
   |some p=>
    obtain⟨e1,vs1,bs1⟩:=p
    rw [ha]at h
    refine Qs8 (ih c vs bs e1 vs1 bs1 ha _ ?_)
    cases e1 with
    |exit i=>
     simp only at h
     simp only [vblock]
     by_cases hi:i=id
     ·rw [if_pos hi]at h ⊢;cases h;exact hQ
     ·rw [if_neg hi]at h ⊢;cases h;exact hQ
    |_=>cases h;exact hQ
  |loop c=>
   have hl:Lwp P nt c Q (St.of vs bs):=by
    simp only at h
    cases ha:evC P call nt n c vs bs with
    |none=>rw [ha]at h;cases h
    |some p=>
     obtain⟨e1,vs1,bs1⟩:=p
     rw [ha]at h
     refine Q8b (ih c vs bs e1 vs1 bs1 ha _ ?_)
     cases e1 with
     |normal=>
      obtain⟨vs2,h1,h2⟩:=Zqy vs1 fun vs=>renK vs bs1 fun vs bs=>evC P call nt n (.loop c) vs bs
      simp only [h1]at h
      obtain⟨vs3,bs3,h3,h4⟩:=Zlu vs2 bs1 fun vs bs=>evC P call nt n (.loop c) vs bs
      rw [h3]at h
      have:St.of vs1 bs1=St.of vs2 bs1:=by simp only [St.of,St.ofG,h2]
      show Lwp P nt c Q (St.of vs1 bs1)
      rw [this]
      have key:=ihl c vs3 bs3 e vs' bs' h Q hQ
      exact fun C e1 e2 rd a w hr=>key C e1 e2 rd a w (h4 C a w hr)
     |_=>cases h;exact hQ
   exact⟨Q0d hl,fun c' e=>by cases e;exact hl⟩
  |_=>cases h
theorem Q8c (hm:P.follows .mixedOrders=true) (hc: ∀f args r,call f args=some r→Qag P f args r) (nt:Nat) (n:Nat) (c:Code) (vs:Vars) (bs:BoxL) (e:Exit) (vs':Vars) (bs':BoxL)
  (h:evC P call nt n c vs bs=some (e,vs',bs')) (Q:Exit→St→Prop) (hQ:Q e (St.of vs' bs')):Vwp P nt c Q (St.of vs bs):=(Qqz P call hm hc nt n c vs bs e vs' bs' h Q hQ).1
end
noncomputable def evF (P:Program) (known:FuncId→List PV→Option PV) (fuel:Nat):Nat→FuncId→List PV→Option PV
 |0,_,_=>none
 |n+1,f,args=>match known f args with
  |some r=>some r
  |none=>match P.funcs[f]? with
   |none=>none
   |some fn=>match fn.body with
    |none=>none
    |some c=>match callable P f&&Nat.ble args.length fn.ntmps with
     |false=>none
     |true=>match evC P (evF P known fuel n) fn.ntmps fuel c (Qbw 0 args) []with
      |some (.ret,vs,bs)=>Qqq P fn.results.toList (St.of vs bs)
      |some (.normal,vs,bs)=>Qqq P fn.results.toList (St.of vs bs)
      |_=>none
theorem Qte {P:Program} {known:FuncId→List PV→Option PV} (hm:P.follows .mixedOrders=true) (hk: ∀f args r,known f args=some r→Qag P f args r) (fuel:Nat): ∀(n:Nat) (f:FuncId) (args:List PV) (r:PV),
  evF P known fuel n f args=some r→Qag P f args r
 |0,_,_,_,h=>by cases h
 |n+1,f,args,r,h=>by
  unfold evF at h
  cases hkn:known f args with
  |some r'=>rw [hkn]at h;cases h;exact hk _ _ _ hkn
  |none=>
   rw [hkn]at h
   simp only at h
   cases hf:P.funcs[f]? with
   |none=>rw [hf]at h;cases h
   |some fn=>
    rw [hf]at h
    simp only at h
    cases hb:fn.body with
    |none=>rw [hb]at h;cases h
    |some c=>
     rw [hb]at h
     simp only at h
     cases hcl:callable P f&&Nat.ble args.length fn.ntmps with
     |false=>rw [hcl]at h;cases h
     |true=>
      rw [hcl]at h
      simp only [Bool.and_eq_true]at hcl
      simp only at h
      have key: ∀e vs bs,(e= .ret∨e= .normal)→evC P (evF P known fuel n) fn.ntmps fuel c (Qbw 0 args) []=some (e,vs,bs)→Qqq P fn.results.toList (St.of vs bs)=some r→Qag P f args r:=by
       intro e vs bs he h1 h2
       refine Qqr fn.ntmps fn.results.toList hf hb hcl.1 rfl rfl hcl.2 (Q8c P _ hm (fun f args r=>Qte hm hk fuel n f args r) fn.ntmps fuel c _ [] e vs bs h1 _ ?_)
       rcases he with rfl|rfl<;>simp only [vret,h2]
      split at h
      ·rename_i vs bs h1;exact key _ _ _ (.inl rfl) h1 h
      ·rename_i vs bs h1;exact key _ _ _ (.inr rfl) h1 h
      ·cases h
def Q8d:FuncId→List PV→Option PV:=fun _ _=>none
theorem Q8e {P:Program} {f:FuncId} {args:List PV} {r:PV} (hm:P.follows .mixedOrders=true) (fuel n:Nat) (h:evF P Q8d fuel n f args=some r):Qag P f args r:=
 Qte hm (fun _ _ _ x=>by cases x) fuel n f args r h
theorem Qah {n:Int} (h1: -9223372036854775808≤n) (h2:n≤9223372036854775807):IntKind.i64.wrap n=n:=IntWalk.i64_in n ⟨h1,h2⟩
theorem Qay {vs vs':List (Nat×PV)} {bs:List (Nat×Box)} {o:List (List PV)} {y:Yl} (hv:Qad [] vs vs'):Le (St.ofG vs bs o y) (St.ofG vs' [] o y):=
 Qaj (θ:=[]) rfl hv trivial
end Go.Vl

namespace Go.Vl
open Go.RowKit
inductive TT where
 |bool
 |int (k:IntKind)
 |str
 |slc (e:TT)
 |agg (fs:List TT)
mutual
def TT.size:TT→Nat
 | .agg fs=>TT.sizes fs
 | .bool| .int _| .str| .slc _=>1
def TT.sizes:List TT→Nat
 | []=>0
 |f::fs=>f.size+TT.sizes fs
end
mutual
def TT.fits (P:Program):TT→TypeId→Bool
 | .bool,t=>match P.underlying t with
  |some .bool=>true
  |_=>false
 | .int k,t=>match P.underlying t with
  |some (.int k')=>decide (k'=k)
  |_=>false
 | .str,t=>match P.underlying t with
  |some .string=>true
  |_=>false
 | .slc e,t=>match P.underlying t with
  |some (.slice te)=>e.fits P te&&Nat.beq (P.cellsOf te) e.size&&Nat.ble 1 e.size
  |_=>false
 | .agg fs,t=>match P.underlying t with
  |some (.struct xs)=>TT.fitsL P fs xs.toList 0&&Nat.beq (P.cellsOf t) (TT.sizes fs)
  |_=>false
def TT.fitsL (P:Program):List TT→List Field→Nat→Bool
 | [],[],_=>true
 |f::fs,x::xs,off=>f.fits P x.type&&Nat.beq x.offset off&&Nat.beq (P.cellsOf x.type) f.size&&TT.fitsL P fs xs (off+f.size)
 |_,_,_=>false
end
def TT.mk:TT→List PV→PV
 | .agg _,cs=> .agg cs
 |_,cs=>cs.headD .undef
mutual
def Qb4:TT→List PV→Prop
 | .bool,cs=> ∃b,cs=[.bool b]
 | .int k,cs=> ∃n,cs=[.int k n]∧(Lit.int k n).wf=true
 | .str,cs=> ∃s:ByteArray,cs=[.str s]∧s.size≤maxLen
 | .slc e,cs=> ∃ess:List (List PV),cs=[.slc (ess.map e.mk)]∧ess.length≤maxLen∧ ∀c∈ess,Qb4 e c
 | .agg fs,cs=>Qfp fs cs
def Qfp:List TT→List PV→Prop
 | [],cs=>cs=[]
 |f::fs,cs=> ∃a b,cs=a++b∧Qb4 f a∧Qfp fs b
end
theorem Qxr {e:TT} {c:List PV} (h:Qb4 e c):(e.mk c).cells=c:=by
 cases e with
 |bool=>simp only [Qb4]at h;obtain⟨b,rfl⟩:=h;rfl
 |int k=>simp only [Qb4]at h;obtain⟨b,rfl,_⟩:=h;rfl
 |str=>simp only [Qb4]at h;obtain⟨b,rfl,_⟩:=h;rfl
 |slc e=>simp only [Qb4]at h;obtain⟨b,rfl,_⟩:=h;rfl
 |agg fs=>rfl
mutual
theorem Qb4.length: ∀{e:TT} {c:List PV},Qb4 e c→c.length=e.size
 | .bool,c,h=>by simp only [Qb4]at h;obtain⟨b,rfl⟩:=h;simp [TT.size]
 | .int k,c,h=>by simp only [Qb4]at h;obtain⟨b,rfl,_⟩:=h;simp [TT.size]
 | .str,c,h=>by simp only [Qb4]at h;obtain⟨b,rfl,_⟩:=h;simp [TT.size]
 | .slc e,c,h=>by simp only [Qb4]at h;obtain⟨b,rfl,_⟩:=h;simp [TT.size]
 | .agg fs,c,h=>by simp only [Qb4]at h;simp only [TT.size];exact Qfp.length h
theorem Qfp.length: ∀{fs:List TT} {c:List PV},Qfp fs c→c.length=TT.sizes fs
 | [],c,h=>by simp only [Qfp]at h;subst h;simp [TT.sizes]
 |f::fs,c,h=>by
  simp only [Qfp]at h
  obtain⟨a,b,rfl,h1,h2⟩:=h
  simp only [TT.sizes,List.length_append,h1.length,h2.length]
end
def exIm (w:World):Im:=fun g j=> ∃u,w.cell? ⟨g,j,none⟩=some u
section
variable {H:Type} {enc:TypeId×Value→H} {P:Program} {w:World} {base:Nat} {held:Bool}
theorem Qvo {im:Im} {A:Option Addr} {c:Nat} (hm:c≤maxLen):Rep w im (.slc []) (.slice A 0 c):=by
 cases A with
 |none=>exact .slcNil c hm
 |some p=>exact .slcE p c hm
mutual
theorem Qq0: ∀(tt:TT) (t:TypeId) (fuel:Nat) (cs:List Value) (x:DataW H×List MemPlace),tt.fits P t=true→DataW.trod enc P w base (fun _=>true) held fuel t cs=some x→
  ∃pvs,RepL w (exIm w) pvs cs∧Qb4 tt pvs
 | .bool,t,fuel,cs,x,hf,h=>by
  simp only [TT.fits]at hf
  split at hf
  ·rename_i ht
   obtain⟨b,rfl,_⟩:=DataW.trod_bool ht h
   exact⟨[.bool b],.cons _ _ _ _ (.bool b) .nil,by simp [Qb4]⟩
  ·cases hf
 | .int k,t,fuel,cs,x,hf,h=>by
  simp only [TT.fits]at hf
  split at hf
  ·rename_i k' ht
   have hk:k'=k:=of_decide_eq_true hf
   subst hk
   obtain⟨n,rfl,_,hw⟩:=DataW.trod_int ht h
   exact⟨[.int k' n],.cons _ _ _ _ (.int _ n) .nil,by simp [Qb4,hw]⟩
  ·cases hf
 | .str,t,fuel,cs,x,hf,h=>by
  simp only [TT.fits]at hf
  split at hf
  ·rename_i ht
   obtain⟨s,rfl,_,hs⟩:=DataW.trod_string ht h
   exact⟨[.str s],.cons _ _ _ _ (.str s) .nil,by simp only [Qb4];exact⟨s,rfl,hs⟩⟩
  ·cases hf
 | .slc e,t,fuel,cs,x,hf,h=>by
  simp only [TT.fits]at hf
  split at hf
  ·rename_i te ht
   simp only [Bool.and_eq_true]at hf
   obtain⟨⟨hf1,hf2⟩,hf3⟩:=hf
   have hsz:=Nat.eq_of_beq_eq_true hf2
   have hpos:=Nat.le_of_ble_eq_true hf3
   rcases DataW.trod_slice ht h with⟨rfl,_⟩|⟨a,len,cap,elems,rest,n,_,rfl,_,_,hl,hm,hlen,hel,_,_⟩
   ·exact⟨[.slc []],.cons _ _ _ _ (.slcNil 0 (Nat.zero_le _)) .nil,by simp only [Qb4];exact⟨[],rfl,Nat.zero_le _,by simp⟩⟩
   ·rcases Nat.eq_zero_or_pos len with rfl|hpl
    ·exact⟨[.slc []],.cons _ _ _ _ (Qvo hm) .nil,by simp only [Qb4];exact⟨[],rfl,Nat.zero_le _,by simp⟩⟩
    ·have each: ∀i,i<len→ ∃ci pi,w.cells? base (a.add (i*e.size)) e.size=some ci∧RepL w (exIm w) pi ci∧Qb4 e pi:=by
      intro i hi
      have hi':=hel i hi
      rw [hsz]at hi'
      have hs:elems[i]? =some elems[i]:=List.getElem?_eq_getElem (by omega)
      rw [hs,Option.bind_eq_some_iff]at hi'
      obtain⟨ci,h1,h2⟩:=hi'
      obtain⟨pi,h3,h4⟩:=Qq0 e te n ci _ hf1 h2
      exact⟨ci,pi,h1,h3,h4⟩
     obtain⟨g,off,rfl⟩: ∃g off,a=⟨g,off,none⟩:=by
      obtain⟨c0,p0,h1,h2,h3⟩:=each 0 hpl
      obtain⟨_,hl0,hc0⟩:=World.cells?_some h1
      have h00:=hc0 0 (by omega)
      have:c0[0]? =some c0[0]:=List.getElem?_eq_getElem (by omega)
      rw [this]at h00
      have hsp:=World.cell?_spot h00
      simp [Addr.add]at hsp
      obtain⟨g,off,sp⟩:=a
      simp at hsp
      subst hsp
      exact⟨g,off,rfl⟩
     have hadd: ∀j,(⟨g,off,none⟩:Addr).add j=⟨g,off+j,none⟩:=fun j=>by unfold Addr.add;split<;>simp_all
     have build: ∀k,k≤len→ ∃(ess:List (List PV)) (vs:List Value),ess.length=k∧vs.length=k*e.size∧RepL w (exIm w) ((ess.map e.mk).flatMap PV.cells) vs∧(∀j,j<vs.length→w.cell? ⟨g,off+j,none⟩=vs[j]?)∧ ∀c∈ess,Qb4 e c:=by
      intro k
      induction k with
      |zero=>intro _;exact⟨[],[],rfl,by simp,.nil,by simp,by simp⟩
      |succ k ih=>
       intro hk
       obtain⟨ess,vs,e1,e2,e3,e4,e5⟩:=ih (by omega)
       obtain⟨ci,pi,h1,h2,h3⟩:=each k hk
       obtain⟨_,hl0,hc0⟩:=World.cells?_some h1
       refine⟨ess++[pi],vs++ci,by simp [e1],by simp [e2,hl0,Nat.succ_mul],?_,?_,?_⟩
       ·simp only [List.map_append,List.map_cons,List.map_nil,List.flatMap_append,List.flatMap_cons,List.flatMap_nil,List.append_nil,Qxr h3]
        exact e3.append h2
       ·intro j hj
        by_cases hjv:j<vs.length
        ·rw [List.getElem?_append_left hjv];exact e4 j hjv
        ·rw [List.getElem?_append_right (by omega)]
         have hjc:j-vs.length<e.size:=by simp at hj;omega
         have:=hc0 (j-vs.length) hjc
         rw [hadd]at this
         have hadd2:(⟨g,off+k*e.size,none⟩:Addr).add (j-vs.length)=⟨g,off+k*e.size+(j-vs.length),none⟩:=by unfold Addr.add;split<;>simp_all
         rw [hadd2]at this
         rw [←this]
         congr 2
         omega
       ·intro c hc
        rcases List.mem_append.1 hc with hc|hc
        ·exact e5 c hc
        ·simp at hc;subst hc;exact h3
     obtain⟨ess,vs,e1,e2,e3,e4,e5⟩:=build len (Nat.le_refl _)
     refine⟨[.slc (ess.map e.mk)],.cons _ _ _ _ ?_ .nil,by simp only [Qb4];exact⟨ess,rfl,by omega,e5⟩⟩
     refine .slc _ g off len cap e.size vs (by simpa using e1) (by omega) ?_ ?_ e4 e3 hl
     ·intro x hx
      simp only [List.mem_map]at hx
      obtain⟨c,hc,rfl⟩:=hx
      rw [Qxr (e5 c hc)]
      exact(e5 c hc).length
     ·intro j hj
      exact⟨vs[j],by rw [e4 j hj,List.getElem?_eq_getElem hj]⟩
  ·cases hf
 | .agg fs,t,fuel,cs,x,hf,h=>by
  simp only [TT.fits]at hf
  split at hf
  ·rename_i xs ht
   simp only [Bool.and_eq_true]at hf
   obtain⟨hf1,hf2⟩:=hf
   obtain⟨ys,n,rfl,_,hlen,hsz,hfl⟩:=DataW.trod_struct ht h
   have hall: ∀(i:Nat) (f:Field),xs.toList[i]? =some f→ ∃y,DataW.trod enc P w base (fun _=>true) held n f.type ((cs.drop f.offset).take (P.cellsOf f.type))=some y:=by
    intro i f hi
    have hi':xs[i]? =some f:=by simpa using hi
    have:=hfl i f hi'
    have hlt:i<ys.length:=by rw [hsz];exact(Array.getElem?_eq_some_iff.1 hi').1
    rw [List.getElem?_eq_getElem hlt]at this
    exact⟨_,this⟩
   obtain⟨pvs,h1,h2⟩:=Qtf fs xs.toList 0 n cs hf1 hall (by rw [hlen,Nat.eq_of_beq_eq_true hf2];simp)
   exact⟨pvs,by simpa using h1,by simp only [Qb4];exact h2⟩
  ·cases hf
theorem Qtf: ∀(fs:List TT) (xs:List Field) (off n:Nat) (cs:List Value),TT.fitsL P fs xs off=true→
  (∀(i:Nat) (f:Field),xs[i]? =some f→ ∃y,DataW.trod enc P w base (fun _=>true) held n f.type ((cs.drop f.offset).take (P.cellsOf f.type))=some y)→cs.length=off+TT.sizes fs→
  ∃pvs,RepL w (exIm w) pvs (cs.drop off)∧Qfp fs pvs
 | [],[],off,n,cs,hf,h,hl=>by
  simp only [TT.sizes]at hl
  refine⟨[],?_,by simp [Qfp]⟩
  rw [List.drop_of_length_le (by omega)]
  exact .nil
 | [],_::_,_,_,_,hf,_,_=>by simp [TT.fitsL]at hf
 |_::_,[],_,_,_,hf,_,_=>by simp [TT.fitsL]at hf
 |f::fs,x::xs,off,n,cs,hf,h,hl=>by
  simp only [TT.fitsL,Bool.and_eq_true]at hf
  obtain⟨⟨⟨hf1,hf2⟩,hf3⟩,hf4⟩:=hf
  have e2:=Nat.eq_of_beq_eq_true hf2
  have e3:=Nat.eq_of_beq_eq_true hf3
  simp only [TT.sizes]at hl
  obtain⟨y,hy⟩:=h 0 x (by simp)
  rw [e2,e3]at hy
  obtain⟨a,h1,h2⟩:=Qq0 f x.type n _ y hf1 hy
  obtain⟨b,h3,h4⟩:=Qtf fs xs (off+f.size) n cs hf4 (fun i f hi=>h (i+1) f (by simpa using hi)) (by omega)
  refine⟨a++b,?_,by simp only [Qfp];exact⟨a,b,rfl,h2,h4⟩⟩
  have:cs.drop off=(cs.drop off).take f.size++cs.drop (off+f.size):=by
   rw [←List.drop_drop,List.take_append_drop]
  rw [this]
  exact h1.append h3
end
end
end Go.Vl
