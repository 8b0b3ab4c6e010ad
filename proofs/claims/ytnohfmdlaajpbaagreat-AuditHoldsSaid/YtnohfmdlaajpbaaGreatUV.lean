/-
  UP, UQ, UR, US, UV (merged for the claim).
-/
import Derived.Test.YtnohfmdlaajpbaaGreatUO
import Derived.KernelRfl
import Derived.IntWalk
import Derived.ProofKit
import Derived.Attr
set_option linter.unusedSimpArgs false
set_option linter.unusedVariables false
namespace Go.Vl
open Go.RowKit
section
variable (P:Program) (tb:Tab) (id:Nat) (bx:Bx)
theorem Z0k (x:Operand) (v:PV):Qa6 P tb id (.move x) [v] bx=some (.done v [],[]):=rfl
theorem Zna (x:Operand) (v:PV):Qa6 P tb id (.assign x) [v] bx=some (.done v [],[]):=rfl
theorem Qri (x:Operand) (b e i o:Nat):Qa6 P tb id (.nilCheck x) [.bp b e i o] bx=some (.done (.bp b e i o) [],[]):=rfl
theorem Qrj (x:Operand) (cs:List PV):Qa6 P tb id (.nilCheck x) [.rp cs] bx=some (.done (.rp cs) [],[]):=rfl
theorem Qrk (x:Operand) (f:FuncId) (a c:List PV):Qa6 P tb id (.nilCheck x) [.fn f a c] bx=some (.done (.fn f a c) [],[]):=rfl
theorem Zdd (T:TypeId):Qa6 P tb id (.makeMap T none) [] bx=Qkp P id T bx:=rfl
theorem Znb (T:TypeId) (x y:Operand) (ok:Bool) (b:Nat) (k:PV):Qa6 P tb id (.lookup T x y ok) [.mp b,k] bx=Qkq P T b k ok bx:=rfl
theorem Qw3 (T:TypeId) (x y z:Operand) (b:Nat) (k v:PV):Qa6 P tb id (.mapUpdate T x y z) [.mp b,k,v] bx=Qhq P T b k v bx:=rfl
theorem Znc (T:TypeId) (x y z:Operand) (b:Nat) (k v:PV):Qa6 P tb id (.insert T x y z) [.mp b,k,v] bx=Qhq P T b k v bx:=rfl
theorem Q26 (T:TypeId) (x y:Operand) (b:Nat) (k:PV):Qa6 P tb id (.mapEntry T x y) [.mp b,k] bx=Qkr P T b k bx:=rfl
theorem Qt6 (T:TypeId) (x y z:Operand) (b:Nat) (q:IntKind) (n:Int) (v:PV):Qa6 P tb id (.entryStore T x y z) [.mp b,.int q n,v] bx=Qks b n v bx:=rfl
theorem Zvz (z:PV):Qgo false z none=z:=rfl
theorem Zv0 (z v:PV):Qgo false z (some v)=v:=rfl
theorem Znd (z:PV):Qgo true z none= .tup [z,.bool false]:=rfl
theorem Zne (z v:PV):Qgo true z (some v)= .tup [v,.bool true]:=rfl
theorem Zde (cs:List PV):(PV.agg cs).isAgg=true:=rfl
theorem Zdf (s:ByteArray):(PV.str s).isAgg=false:=rfl
theorem Zdg (k:IntKind) (n:Int):(PV.int k n).isAgg=false:=rfl
theorem Znf (c x y:Operand) (v v':PV):Qa6 P tb id (.pick c x y) [.bool true,v,v'] bx=some (.done v [],[]):=rfl
theorem Zng (c x y:Operand) (v v':PV):Qa6 P tb id (.pick c x y) [.bool false,v,v'] bx=some (.done v' [],[]):=rfl
theorem Zv1 (T:TypeId):Qa6 P tb id (.alloc T) [] bx=M.bind (.ofOpt (Qar P T)) (fun z=>newVar id T z) bx:=rfl
theorem Z2m (T:TypeId) (x:Operand) (v:PV):Qa6 P tb id (.box T x) [v] bx=newVar id T v bx:=rfl
theorem Zv2 (T:TypeId) (parts:Array (Nat×Operand)) (vs:List PV):Qa6 P tb id (.build T parts) vs bx=
  M.bind (.ok (buildable P T)) (fun _=> .bind (.ofOpt (Qo2 P T)) fun z=> .bind (.ofOpt (Qkn (Qae P T) z.cells ((parts.toList.map (·.1)).zip vs))) fun cs=> .pure (.done (.agg cs) [])) bx:=rfl
theorem Qt7 (T n:Nat) (parts:Array (Nat×Operand)) (vs:List PV) (h:lkp tb id=none):Qa6 P tb id (.buildSlice T n parts) vs bx=
  M.bind (.ok (parts.toList.map (·.1)==List.range n&&n≤1000)) (fun _=> .bind (.ofOpt (Qbl P T)) fun E=> .bind (.ofOpt (Qap P E)) fun q=>
   .bind (.ofOpt (Qar P E)) fun z=> .bind (.hard id) fun b=> .bind (Qgh vs) fun ys=>
   .bind (.ok (b.isNone&&z.cells.length==q.1&&ys.1.length==n&&(ys.1.all fun e=>e.cells.length==q.1&&Qa4 e.cells)&&0<q.1&&q.1≤1000)) fun _=>
   .pure (.done (.bs id q.1 0 n) (ys.2++[.new id {els:=ys.1,esz:=q.1,ety:=E,fro:=0,live:=true,arr:=true}]))) bx:=by simp only [Qa6,h]
theorem Qrl (T n:Nat) (parts:Array (Nat×Operand)) (vs:List PV) (p:List (Nat×Nat)×List (Nat×Nat)) (h:lkp tb id=some p):Qa6 P tb id (.buildSlice T n parts) vs bx=Qi7 P id T n parts vs bx:=by simp only [Qa6,h]
theorem Zdh (T:TypeId) (x:Operand) (b esz i off:Nat):Qa6 P tb id (.load T x) [.bp b esz i off] bx=
  M.bind (.soft b) (fun B=> .bind (.ok (B.esz==esz)) fun _=> .bind (.ofOpt B.els[i]?) fun e=> .bind (.ofOpt (Qdf P T e.cells off)) fun v=> .pure (.done v [])) bx:=rfl
theorem Zdi (T:TypeId) (x:Operand) (cs:List PV):Qa6 P tb id (.load T x) [.rp cs] bx=M.bind (.ofOpt (Qdf P T cs 0)) (fun v=> .pure (.done v [])) bx:=rfl
theorem Zv3 (T:TypeId) (x y:Operand) (b esz i off:Nat) (v:PV):Qa6 P tb id (.store T x y) [.bp b esz i off,v] bx=
  M.bind (.hard b) (fun Bo=> .bind (.ofOpt Bo) fun B=> .bind (.ofOpt B.els[i]?) fun e=>
   .bind (.ok (B.esz==esz&&B.live&&B.fro≤i&&(P.info? T).isSome&&v.cells.length==P.cellsOf T&&Qa4 v.cells&&off+v.cells.length≤e.cells.length)) fun _=>
   if B.arr then .bind (escL v.cells) fun y=> .bind (.ok (Qa4 y.1&&y.2.all fun e=>e.id != b)) fun _=> .pure (.done (.tup []) (y.2++[.wr b i (e.putCells off y.1)]))
   else .pure (.done (.tup []) [.wr b i (e.putCells off v.cells)])) bx:=rfl
theorem Z2n (op:BinOp) (t u:TypeId) (x y:Operand) (v v':PV):Qa6 P tb id (.binOp op t x y u) [v,v'] bx=M.bind (.ofOpt (Qbp op t P v v')) (fun v=> .pure (.done v [])) bx:=rfl
theorem Z2o (t:TypeId) (x:Operand) (a:Bool):Qa6 P tb id (.unOp .not t x) [.bool a] bx=some (.done (.bool !a) [],[]):=rfl
theorem Z2p (t:TypeId) (x:Operand) (k:IntKind) (a:Int):Qa6 P tb id (.unOp .neg t x) [.int k a] bx=some (.done (.int k (k.wrap (0-a))) [],[]):=rfl
theorem Z0l (s d:TypeId) (x:Operand) (v:PV):Qa6 P tb id (.convert s d x) [v] bx=Qqs P s d v bx:=rfl
theorem Q27 (f:FuncId) (first cap:Array Operand) (vs:List PV):Qa6 P tb id (.makeFunc (.func f) first cap) vs bx=some (.done (.fn f (vs.take first.size) (vs.drop first.size)) [],[]):=rfl
theorem Qw4 (T:TypeId) (x y:Operand) (k k':IntKind) (l c:Int):Qa6 P tb id (.makeSlice T x y) [.int k l,.int k' c] bx=
  M.bind (.ofOpt (Qbl P T)) (fun E=> .bind (.ofOpt (Qap P E)) fun q=> .bind (.ofOpt (Qar P E)) fun z=> .bind (.hard id) fun b=>
   .bind (.ok (b.isNone&&z.cells.length==q.1&&Qa4 z.cells&&0<q.1&&decide (0≤l)&&decide (l≤c)&&decide ((q.2:Int)*c≤281474976710656)&&decide (c≤9223372036854775807))) fun _=>
   .pure (.done (.bs id q.1 0 l.toNat) [.new id {els:=List.replicate l.toNat z,esz:=q.1,ety:=E,fro:=0,live:=true,arr:=true}])) bx:=rfl
theorem Znh (T:TypeId) (x:Operand) (v:PV):Qa6 P tb id (.slice T x none none none) [v] bx=Qcu P T v none none bx:=rfl
theorem Zni (T:TypeId) (x l:Operand) (v vl:PV):Qa6 P tb id (.slice T x (some l) none none) [v,vl] bx=Qcu P T v (some vl) none bx:=rfl
theorem Znj (T:TypeId) (x h:Operand) (v vh:PV):Qa6 P tb id (.slice T x none (some h) none) [v,vh] bx=Qcu P T v none (some vh) bx:=rfl
theorem Znk (T:TypeId) (x lo hi mx:Operand) (b esz off len:Nat) (k1 k2 k3:IntKind) (l h m:Int):Qa6 P tb id (.slice T x (some lo) (some hi) (some mx)) [.bs b esz off len,.int k1 l,.int k2 h,.int k3 m] bx=Qd7 P T b esz off len l h m bx:=rfl
theorem Znl (T:TypeId) (x hi mx:Operand) (es:List PV) (k2 k3:IntKind) (h m:Int):Qa6 P tb id (.slice T x none (some hi) (some mx)) [.slc es,.int k2 h,.int k3 m] bx=Qfp P T es h m bx:=rfl
theorem Z2q (asx:Array Operand) (ts:Array TypeId):Qa6 P tb id (.call ⟨.builtin .cap,asx,ts⟩) [.nilS] bx=Qwg P ts bx:=rfl
theorem Znm (T:TypeId) (x l h:Operand) (v vl vh:PV):Qa6 P tb id (.slice T x (some l) (some h) none) [v,vl,vh] bx=Qcu P T v (some vl) (some vh) bx:=rfl
theorem Qok (T:TypeId) (x:Operand) (f b e i o:Nat):Qa6 P tb id (.fieldAddr T x f) [.bp b e i o] bx=M.bind (.ofOpt (Qaq P T f)) (fun q=> .pure (.done (.bp b e i (o+q.1)) [])) bx:=rfl
theorem Qol (T:TypeId) (x:Operand) (f:Nat) (cs:List PV):Qa6 P tb id (.fieldAddr T x f) [.rp cs] bx=M.bind (.ofOpt (Qaq P T f)) (fun q=> .pure (.done (.rp (cs.drop q.1)) [])) bx:=rfl
theorem Zv4 (T:TypeId) (x:Operand) (f:Nat) (cs:List PV):Qa6 P tb id (.field T x f) [.agg cs] bx=M.bind (.ofOpt (Qaq P T f)) (fun q=> .bind (.ofOpt (Qdf P q.2.1 cs q.1)) fun v=> .pure (.done v [])) bx:=rfl
theorem Qom (T:TypeId) (x y:Operand) (b e k o:Nat) (ik:IntKind) (i:Int):Qa6 P tb id (.indexAddr T x y) [.bp b e k o,.int ik i] bx=
  M.bind (.ofOpt (Qfl P T)) (fun q=> .bind (.ofOpt (Qap P q.2)) fun s=> .bind (.ok (decide (0≤i)&&decide (i<q.1)&&decide (1<q.1))) fun _=> .pure (.done (.bp b e k (o+i.toNat*s.1)) [])) bx:=rfl
theorem Qon (T:TypeId) (x y:Operand) (cs:List PV) (ik:IntKind) (i:Int):Qa6 P tb id (.indexAddr T x y) [.rp cs,.int ik i] bx=
  M.bind (.ofOpt (Qfl P T)) (fun q=> .bind (.ofOpt (Qap P q.2)) fun s=> .bind (.ok (decide (0≤i)&&decide (i<q.1)&&decide (1<q.1))) fun _=> .pure (.done (.rp (cs.drop (i.toNat*s.1))) [])) bx:=rfl
theorem Qoo (T:TypeId) (x y:Operand) (b e o n:Nat) (ik:IntKind) (i:Int):Qa6 P tb id (.indexAddr T x y) [.bs b e o n,.int ik i] bx=
  M.bind (.ofOpt (Qbl P T)) (fun E=> .bind (.ofOpt (Qap P E)) fun s=> .bind (.ok (s.1==e&&decide (0≤i)&&decide (i<n))) fun _=> .pure (.done (.bp b e (o+i.toNat) 0) [])) bx:=rfl
theorem Qnv (T:TypeId) (x y:Operand) (es:List PV) (ik:IntKind) (i:Int):Qa6 P tb id (.indexAddr T x y) [.slc es,.int ik i] bx=
  M.bind (.ofOpt (Qbl P T)) (fun E=> .bind (.ofOpt (Qap P E)) fun s=> .bind (.ok (decide (0≤i))) fun _=> .bind (.ofOpt es[i.toNat]?) fun e=> .bind (.ok (e.cells.length==s.1)) fun _=> .pure (.done (.rp e.cells) [])) bx:=rfl
theorem Qw5 (T:TypeId) (x y:Operand) (cs:List PV) (ik:IntKind) (i:Int):Qa6 P tb id (.index T x y) [.agg cs,.int ik i] bx=
  M.bind (.ofOpt (Qfl P T)) (fun q=> .bind (.ofOpt (Qap P q.2)) fun s=> .bind (.ok (decide (0≤i)&&decide (i<q.1))) fun _=> .bind (.ofOpt (Qdf P q.2 cs (i.toNat*s.1))) fun v=> .pure (.done v [])) bx:=rfl
theorem Qw6 (T:TypeId) (x y:Operand) (s:ByteArray) (ik:IntKind) (i:Int):Qa6 P tb id (.index T x y) [.str s,.int ik i] bx=
  M.bind (.ok (match P.underlying T with|some .string=>decide (0≤i)|_=>false)) (fun _=> .bind (.ofOpt s[i.toNat]?) fun c=> .pure (.done (.int .u8 c.toNat) [])) bx:=rfl
theorem Zdj (x:Operand) (i:Nat) (vs:List PV):Qa6 P tb id (.extract x i) [.tup vs] bx=M.bind (.ofOpt vs[i]?) (fun v=> .pure (.done v [])) bx:=rfl
theorem Z2r (asx:Array Operand) (ts:Array TypeId) (x:PV):Qa6 P tb id (.call ⟨.builtin .len,asx,ts⟩) [x] bx=M.bind (.ofOpt ts[0]?) (fun t=> .bind (.ofOpt (Qa3 P t x)) fun v=> .pure (.done v [])) bx:=rfl
theorem Znn (asx:Array Operand) (ts:Array TypeId) (s x:PV) (h:lkp tb id=none):Qa6 P tb id (.call ⟨.builtin .append,asx,ts⟩) [s,x] bx=
  M.bind (.ofOpt ts[0]?) (fun t=> .bind (.ofOpt ts[1]?) fun t2=> .bind (.ok (ts.size==2)) fun _=>Qdr P id t t2 s x) bx:=by simp only [Qa6,h]
theorem Zdk (asx:Array Operand) (ts:Array TypeId) (s x:PV) (p:List (Nat×Nat)×List (Nat×Nat)) (h:lkp tb id=some p):Qa6 P tb id (.call ⟨.builtin .append,asx,ts⟩) [s,x] bx=
  M.bind (.ofOpt ts[0]?) (fun t=> .bind (.ofOpt ts[1]?) fun t2=> .bind (.ok (ts.size==2)) fun _=>appendD P id t t2 s x) bx:=by simp only [Qa6,h]
theorem Z2s (asx:Array Operand) (ts:Array TypeId) (x:PV) (xs:List PV):Qa6 P tb id (.call ⟨.builtin .max,asx,ts⟩) (x::xs) bx=M.bind (.ofOpt (Qhp true x xs)) (fun v=> .pure (.done v [])) bx:=rfl
theorem Z2t (asx:Array Operand) (ts:Array TypeId) (x:PV) (xs:List PV):Qa6 P tb id (.call ⟨.builtin .min,asx,ts⟩) (x::xs) bx=M.bind (.ofOpt (Qhp false x xs)) (fun v=> .pure (.done v [])) bx:=rfl
theorem Zo6 (fo:Operand) (asx:Array Operand) (ts:Array TypeId) (f:FuncId) (first cap args:List PV) (h:lkp tb id=none):Qa6 P tb id (.call ⟨.value fo,asx,ts⟩) (.fn f first cap::args) bx=
  M.bind (Qev first) (fun x=> .bind (Qgh args) fun y=> .bind (Qev cap) fun z=> .pure (.call f (x.1++y.1++z.1) (x.2++y.2++z.2))) bx:=by simp only [Qa6,h]
theorem Zo7 (fo:Operand) (asx:Array Operand) (ts:Array TypeId) (f:FuncId) (first cap args:List PV) (θ ν:List (Nat×Nat)) (h:lkp tb id=some (θ,ν)):Qa6 P tb id (.call ⟨.value fo,asx,ts⟩) (.fn f first cap::args) bx=
  Qfn θ ν f (first++args++cap) bx:=by simp only [Qa6,h]
theorem Z0m (asx:Array Operand) (ts:Array TypeId) (d x:PV):Qa6 P tb id (.call ⟨.builtin .copy,asx,ts⟩) [d,x] bx=M.bind (.ofOpt ts[0]?) (fun t=>Qi8 P t d x) bx:=rfl
theorem Zv5 (asx:Array Operand) (ts:Array TypeId) (d:PV):Qa6 P tb id (.call ⟨.builtin .clear,asx,ts⟩) [d] bx=M.bind (.ofOpt ts[0]?) (fun t=>Qfo P t d) bx:=rfl
theorem Z2u (fo:Operand) (asx:Array Operand) (ts:Array TypeId) (n stop:Nat) (args:List PV):Qa6 P tb id (.call ⟨.value fo,asx,ts⟩) (.yld n stop::args) bx=
  M.bind (.hard YID) (fun _=> .bind (Qgh args) fun y=> .pure (.yield n stop y.1 y.2)) bx:=rfl
end
section
variable (P:Program) (t:TypeId) (k k':IntKind) (a b:Int)
theorem Z2v:Qbp .add t P (.int k a) (.int k b)=some (.int k (k.wrap (a+b))):=by simp [Qbp,Qdh]
theorem Z2w:Qbp .sub t P (.int k a) (.int k b)=some (.int k (k.wrap (a-b))):=by simp [Qbp,Qdh]
theorem Z2x:Qbp .mul t P (.int k a) (.int k b)=some (.int k (k.wrap (a*b))):=by simp [Qbp,Qdh]
theorem Z2y (hb:b≠0):Qbp .quo t P (.int k a) (.int k b)=some (.int k (k.wrap (a.tdiv b))):=by simp [Qbp,Qdh,hb]
theorem Z2z (hb:b≠0):Qbp .rem t P (.int k a) (.int k b)=some (.int k (a.tmod b)):=by simp [Qbp,Qdh,hb]
theorem Z0n:Qbp .and t P (.int k a) (.int k b)=some (.int k (k.wrap (BitVec.ofInt k.bits a &&& BitVec.ofInt k.bits b).toNat)):=by simp [Qbp,Qdh]
theorem b_or:Qbp .or t P (.int k a) (.int k b)=some (.int k (k.wrap (BitVec.ofInt k.bits a ||| BitVec.ofInt k.bits b).toNat)):=by simp [Qbp,Qdh]
theorem Z20:Qbp .eql t P (.int k a) (.int k b)=some (.bool (a==b)):=by simp [Qbp,Qdh,Qko]
theorem Z21:Qbp .neq t P (.int k a) (.int k b)=some (.bool (a != b)):=by simp [Qbp,Qdh,Qko]
theorem Z22:Qbp .lss t P (.int k a) (.int k b)=some (.bool (decide (a<b))):=by simp [Qbp,Qdh,Qko]
theorem Z23:Qbp .leq t P (.int k a) (.int k b)=some (.bool (decide (a≤b))):=by simp [Qbp,Qdh,Qko]
theorem Z24:Qbp .gtr t P (.int k a) (.int k b)=some (.bool (decide (b<a))):=by simp [Qbp,Qdh,Qko]
theorem Z25:Qbp .geq t P (.int k a) (.int k b)=some (.bool (decide (b≤a))):=by simp [Qbp,Qdh,Qko]
theorem Z26:Qbp .shl t P (.int k a) (.int k' b)=Qhf .shl k a b:=rfl
theorem Z27:Qbp .shr t P (.int k a) (.int k' b)=Qhf .shr k a b:=rfl
theorem Zv6 (op:BinOp) (x y:ByteArray):Qbp op t P (.str x) (.str y)=Qo4 op x y:=rfl
theorem Zno (op:BinOp):Qbp op t P .nilS .nilS=Qi5 op t P true:=rfl
theorem Znp (op:BinOp) (es:List PV):Qbp op t P (.slc es) .nilS=match es.isEmpty with
  |true=>Qyt op t P
  |false=>Qi5 op t P false:=rfl
theorem Zv7 (op:BinOp) (b esz off len:Nat):Qbp op t P (.bs b esz off len) .nilS=match Nat.beq len 0 with
  |true=>none
  |false=>Qi5 op t P false:=rfl
theorem Zv8 (op:BinOp) (f:FuncId) (x y:List PV):Qbp op t P (.fn f x y) .nilF=Zmp op (tyFn P t):=rfl
theorem Zv9 (op:BinOp) (b esz i off:Nat):Qbp op t P (.bp b esz i off) .nilP=Qi6 op (Qn6 P t) false:=rfl
theorem Zwa (op:BinOp) (cs:List PV):Qbp op t P (.rp cs) .nilP=Qi6 op (Qn6 P t) false:=rfl
theorem Z0o (op:BinOp):Qbp op t P .nilP .nilP=Qi6 op (Qn6 P t) true:=rfl
theorem Z28 (x y:Bool) (h:P.underlying t=some .bool):Qbp .eql t P (.bool x) (.bool y)=some (.bool (x==y)):=by simp [Qbp,h]
theorem Z29 (x y:Bool) (h:P.underlying t=some .bool):Qbp .neq t P (.bool x) (.bool y)=some (.bool (!(x==y))):=by simp [Qbp,h]
end
def Qhm:List Nat→List (Nat×PV)→List (Nat×PV)
 | [],_=>[]
 |t::ks,vs=>match lkp vs t with
  |some v=>(t,v)::Qhm ks vs
  |none=>Qhm ks vs
def St.keep (ks:List Nat) (st:St):St:=⟨fun t=>if ks.contains t then st.var t else none,st.box,st.out,st.yl⟩
theorem Qeb (vs:List (Nat×PV)): ∀(ks:List Nat) (t:Nat),lkp (Qhm ks vs) t=if ks.contains t then lkp vs t else none
 | [],t=>rfl
 |k::ks,t=>by
  unfold Qhm;by_cases e:t=k
  ·subst e;cases h:lkp vs t with
   |none=>
    rw [Qeb vs ks t,h];simp
   |some v=>simp [lkp]
  ·have hne: ¬k=t:=fun x=>e x.symm;cases h:lkp vs k with
   |none=>simp only [Qeb vs ks t];simp [e]
   |some v=>simp only [lkp,e,if_false,Qeb vs ks t];simp [e]
theorem Zwb (ks:List Nat) (vs:List (Nat×PV)) (bs:List (Nat×Box)) (o:List (List PV)) (y:Yl):(St.ofG vs bs o y).keep ks=St.ofG (Qhm ks vs) bs o y:=by
 refine St.ext' ?_ rfl rfl rfl;funext t;simp only [St.keep,St.ofG,Qeb]
theorem Zwc (ks:List Nat) (st:St):Le st (st.keep ks):=by
 rintro C a w ⟨ρ,im,h⟩;refine⟨ρ,im,h.root,h.nt,h.dfr,h.imc,?_,h.rho,h.box,h.inj⟩;intro t v hv;simp only [St.keep]at hv;split at hv
 ·exact h.var t v hv
 ·cases hv
def Zdl:Bool→Array Oper→List Acc→Prop
 |false,_,_=>True
 |true,ops,accs=>Qpl ops accs.reverse=true
def Zdm (x:Option PV) (yes no:Unit→Prop):Prop:=match x with
 |some (.bool true)=>yes ()
 |some (.bool false)=>no ()
 |some .anyB=>yes ()∧no ()
 |_=>False
def vx (P:Program) (tb:Tab) (nt:Nat) (ks:List Nat):Code→(Exit→St→Prop)→St→Prop
 | .skip,Q,st=>Q .normal st
 | .label _,Q,st=>Q .normal st
 | .exit id,Q,st=>Q (.exit id) st
 | .ret,Q,st=>Q .ret st
 | .seq a b,Q,st=>vx P tb nt ks a (vthen (vx P tb nt ks b Q) Q) st
 | .region id ops draw,Q,st=>100*id+ops.toList.length≤LENT∧vops P tb ops nt (100*id) 0 ops.toList st [] fun st' accs=>Zdl draw ops accs∧Q .normal (st'.keep ks)
 | .cond c a b,Q,st=>Zdm (st.ev c) (fun _=>vx P tb nt ks a Q st) (fun _=>vx P tb nt ks b Q st)
 | .block id c,Q,st=>vx P tb nt ks c (vblock id Q) st
 | .loop c,Q,st=>Vwp P nt (.loop c) Q st
 | .rangeFunc f ps a c,Q,st=>Vwp P nt (.rangeFunc f ps a c) Q st
 | .scope c,Q,st=>Vwp P nt (.scope c) Q st
 | .goto l,Q,st=>Vwp P nt (.goto l) Q st
 | .refuse s,Q,st=>Vwp P nt (.refuse s) Q st
theorem Qb5 {P:Program} {tb:Tab} {nt:Nat} {ks:List Nat} (hm:P.follows .mixedOrders=true): ∀(c:Code) (Q:Exit→St→Prop) (st:St),vx P tb nt ks c Q st→Vwp P nt c Q st
 | .skip,Q,st,h=>Zm5 h
 | .label _,Q,st,h=>Zc6 h
 | .exit id,Q,st,h=>Zm6 h
 | .ret,Q,st,h=>Zvy h
 | .seq a b,Q,st,h=>Zc7 (Qdt (Qb5 hm a _ st h) fun e s q=>by
   cases e with
   |normal=>exact Qb5 hm b Q s q
   |_=>exact q)
 | .region id ops draw,Q,st,⟨hL,h⟩=>fun C h1 h2 rd a w hr=>by
   have:=Q22 (tb:=tb) (id:=id) (draw:=draw) (ops:=ops) (Q:=fun e s=>Q e (s.keep ks)) (100*id) hm (by simpa using hL) (Qfd (fun s l ⟨k1,k2⟩=>⟨fun hd=>by subst hd;exact k1,k2⟩) _ _ _ _ h) C h1 h2 rd a w hr;exact wpIn_mono this fun e a' w' ⟨s,q,r⟩=>⟨_,q,Zwc ks s C a' w' r⟩
 | .cond c a b,Q,st,h=>by
   simp only [vx]at h;unfold Zdm at h;split at h
   ·rename_i ht;exact Qza ht (by simpa using Qb5 hm a Q st h)
   ·rename_i ht;exact Qza ht (by simpa using Qb5 hm b Q st h)
   ·rename_i ht;exact Qt2 ht (Qb5 hm a Q st h.1) (Qb5 hm b Q st h.2)
   ·exact h.elim
 | .block id c,Q,st,h=>Zc8 (Qb5 hm c _ st h)
 | .loop _,_,_,h=>h
 | .rangeFunc _ _ _ _,_,_,h=>h
 | .scope _,_,_,h=>h
 | .goto _,_,_,h=>h
 | .refuse _,_,_,h=>h
inductive It where
 |code (c:Code)
 |blk (id:Nat)
 |again (J:St→Prop)
mutual
def go (P:Program) (tb:Tab) (nt:Nat) (ks:List Nat):List It→(Exit→St→Prop)→St→Prop
 | [],Q,st=>Q .normal st
 | .blk _::k,Q,st=>go P tb nt ks k Q st
 | .again J::_,_,st=>J st
 | .code c::k,Q,st=>vx P tb nt ks c (fun e s=>gleave P tb nt ks k Q e s) st
def gleave (P:Program) (tb:Tab) (nt:Nat) (ks:List Nat):List It→(Exit→St→Prop)→Exit→St→Prop
 | [],Q,e,st=>Q e st
 | .blk j::k,Q,e,st=>match e with
  | .exit i=>if i=j then go P tb nt ks k Q st else gleave P tb nt ks k Q (.exit i) st
  | .normal=>go P tb nt ks k Q st
  |e=>gleave P tb nt ks k Q e st
 | .again J::k,Q,e,st=>match e with
  | .normal=>J st
  |e=>gleave P tb nt ks k Q e st
 | .code c::k,Q,e,st=>match e with
  | .normal=>vx P tb nt ks c (fun e s=>gleave P tb nt ks k Q e s) st
  |e=>gleave P tb nt ks k Q e st
end
section
variable {P:Program} {tb:Tab} {nt:Nat} {ks:List Nat} (k:List It) (Q:Exit→St→Prop) (st:St)
theorem Qc2: ∀(k:List It) (Q:Exit→St→Prop) (st:St),gleave P tb nt ks k Q .normal st=go P tb nt ks k Q st
 | [],Q,st=>by simp only [gleave,go]
 | .blk _::k,Q,st=>by simp only [gleave,go]
 | .again _::k,Q,st=>by simp only [gleave,go]
 | .code _::k,Q,st=>by simp only [gleave,go]
theorem Z3a:go P tb nt ks [] Q st=Q .normal st:=by simp only [go]
theorem Z3b (id:Nat):go P tb nt ks (.blk id::k) Q st=go P tb nt ks k Q st:=by simp only [go]
theorem Zwd (J:St→Prop):go P tb nt ks (.again J::k) Q st=J st:=by simp only [go]
theorem Z0p:go P tb nt ks (.code .skip::k) Q st=go P tb nt ks k Q st:=by simp only [go,vx,Qc2]
theorem Zwe (l:Nat):go P tb nt ks (.code (.label l)::k) Q st=go P tb nt ks k Q st:=by simp only [go,vx,Qc2]
theorem Z3c (a b:Code):go P tb nt ks (.code (.seq a b)::k) Q st=go P tb nt ks (.code a:: .code b::k) Q st:=by
 simp only [go,vx];congr 1;funext e s;cases e<;>simp only [vthen,gleave]
theorem Zwf (id:Nat) (c:Code):go P tb nt ks (.code (.block id c)::k) Q st=go P tb nt ks (.code c:: .blk id::k) Q st:=by
 simp only [go,vx];congr 1;funext e s;cases e<;>simp only [vblock,gleave,Qc2]
def gexit (P:Program) (tb:Tab) (nt:Nat) (ks:List Nat) (i:Nat) (k:List It) (Q:Exit→St→Prop) (st:St):Prop:=gleave P tb nt ks k Q (.exit i) st
theorem Z0q (i:Nat):go P tb nt ks (.code (.exit i)::k) Q st=gexit P tb nt ks i k Q st:=by simp only [go,vx,gexit]
theorem Zdn (i j:Nat):gexit P tb nt ks i (.blk j::k) Q st=if i=j then go P tb nt ks k Q st else gexit P tb nt ks i k Q st:=by simp only [gexit,gleave]
theorem Q28 (i:Nat) (c:Code):gexit P tb nt ks i (.code c::k) Q st=gexit P tb nt ks i k Q st:=by simp only [gexit,gleave]
theorem Qw7 (i:Nat) (J:St→Prop):gexit P tb nt ks i (.again J::k) Q st=gexit P tb nt ks i k Q st:=by simp only [gexit,gleave]
theorem Zdo (i:Nat):gexit P tb nt ks i [] Q st=Q (.exit i) st:=by simp only [gexit,gleave]
theorem Qfe: ∀(k:List It) (Q:Exit→St→Prop) (st:St),gleave P tb nt ks k Q .ret st=Q .ret st
 | [],Q,st=>by simp only [gleave]
 | .blk _::k,Q,st=>by simp only [gleave,Qfe k]
 | .again _::k,Q,st=>by simp only [gleave,Qfe k]
 | .code _::k,Q,st=>by simp only [gleave,Qfe k]
theorem Z3d:go P tb nt ks (.code .ret::k) Q st=Q .ret st:=by simp only [go,vx,Qfe]
def gcond (P:Program) (tb:Tab) (nt:Nat) (ks:List Nat) (x:Option PV) (a b:Code) (k:List It) (Q:Exit→St→Prop) (st:St):Prop:=
 Zdm x (fun _=>go P tb nt ks (.code a::k) Q st) (fun _=>go P tb nt ks (.code b::k) Q st)
theorem Z0r (c:Operand) (a b:Code):go P tb nt ks (.code (.cond c a b)::k) Q st=gcond P tb nt ks (st.ev c) a b k Q st:=by simp only [go,vx,gcond]
theorem Q29 (a b:Code):gcond P tb nt ks (some (.bool true)) a b k Q st=go P tb nt ks (.code a::k) Q st:=rfl
theorem Qw8 (a b:Code):gcond P tb nt ks (some (.bool false)) a b k Q st=go P tb nt ks (.code b::k) Q st:=rfl
theorem Zdp (a b:Code):gcond P tb nt ks (some .anyB) a b k Q st=(go P tb nt ks (.code a::k) Q st∧go P tb nt ks (.code b::k) Q st):=rfl
def gops (P:Program) (tb:Tab) (nt:Nat) (ks:List Nat) (ops:Array Oper) (base i:Nat) (rest:List Oper) (accs:List Acc) (draw:Bool) (k:List It) (Q:Exit→St→Prop) (st:St):Prop:=
 vops P tb ops nt base i rest st accs fun st' accs=>Zdl draw ops accs∧go P tb nt ks k Q (st'.keep ks)
def gwanted (P:Program) (tb:Tab) (nt:Nat) (ks:List Nat) (x:Option Bool) (ops:Array Oper) (base i:Nat) (o:Oper) (rest:List Oper) (accs:List Acc) (draw:Bool) (k:List It) (Q:Exit→St→Prop) (st:St):Prop:=
 Qlu x (fun _=>gops P tb nt ks ops base (i+1) rest ([]::accs) draw k Q (st.put o.dst (.tup [])))
  (fun _=>Qt3 (st.evs o.op.operands.toList) fun vs=>Zm7 P st.out st.yl (Qa6 P tb (base+i) o.op vs st.box) fun v es l=>gops P tb nt ks ops base (i+1) rest (l::accs) draw k Q ((Qan es st).put o.dst v))
def gvals (P:Program) (tb:Tab) (nt:Nat) (ks:List Nat) (x:Option (List PV)) (ops:Array Oper) (base i:Nat) (o:Oper) (rest:List Oper) (accs:List Acc) (draw:Bool) (k:List It) (Q:Exit→St→Prop) (st:St):Prop:=
 Qt3 x fun vs=>Zm7 P st.out st.yl (Qa6 P tb (base+i) o.op vs st.box) fun v es l=>gops P tb nt ks ops base (i+1) rest (l::accs) draw k Q ((Qan es st).put o.dst v)
def gout (P:Program) (tb:Tab) (nt:Nat) (ks:List Nat) (x:Option (Out×Acc)) (ops:Array Oper) (base i:Nat) (dst:Option Tmp) (rest:List Oper) (accs:List Acc) (draw:Bool) (k:List It) (Q:Exit→St→Prop) (st:St):Prop:=
 Zm7 P st.out st.yl x fun v es l=>gops P tb nt ks ops base (i+1) rest (l::accs) draw k Q ((Qan es st).put dst v)
def gcall (P:Program) (tb:Tab) (nt:Nat) (ks:List Nat) (f:FuncId) (args:List PV) (es:List Eff) (l:Acc) (ops:Array Oper) (base i:Nat) (dst:Option Tmp) (rest:List Oper) (accs:List Acc) (draw:Bool) (k:List It) (Q:Exit→St→Prop)
  (st:St):Prop:=vcall P f args fun r=>gops P tb nt ks ops base (i+1) rest (l::accs) draw k Q ((Qan (if Qhs r then []else es) st).put dst r)
theorem Znq (id:Nat) (l:List Oper) (draw:Bool):go P tb nt ks (.code (.region id l.toArray draw)::k) Q st=(100*id+l.length≤LENT∧gops P tb nt ks l.toArray (100*id) 0 l [] draw k Q st):=by
 simp only [go,vx,gops,Qc2]
variable (ops:Array Oper) (base i:Nat) (o:Oper) (rest:List Oper) (accs:List Acc) (draw:Bool)
theorem Znr:gops P tb nt ks ops base i [] accs draw k Q st=(Zdl draw ops accs∧go P tb nt ks k Q (st.keep ks)):=by simp only [gops,vops]
theorem Zdq:gops P tb nt ks ops base i (o::rest) accs draw k Q st=(Q21 nt o=true∧gwanted P tb nt ks (Qcp ops o st) ops base i o rest accs draw k Q st):=by simp only [gops,vops,gwanted]
theorem Qrm:gwanted P tb nt ks (some false) ops base i o rest accs draw k Q st=gops P tb nt ks ops base (i+1) rest ([]::accs) draw k Q (st.put o.dst (.tup [])):=rfl
theorem Qt8:gwanted P tb nt ks (some true) ops base i o rest accs draw k Q st=gvals P tb nt ks (st.evs o.op.operands.toList) ops base i o rest accs draw k Q st:=rfl
theorem Q3a (vs:List PV):gvals P tb nt ks (some vs) ops base i o rest accs draw k Q st=gout P tb nt ks (Qa6 P tb (base+i) o.op vs st.box) ops base i o.dst rest accs draw k Q st:=rfl
theorem Zdr (dst:Option Tmp) (v:PV) (es:List Eff) (l:Acc):gout P tb nt ks (some (.done v es,l)) ops base i dst rest accs draw k Q st=
  gops P tb nt ks ops base (i+1) rest ((l++Qcm es)::accs) draw k Q ((Qan es st).put dst v):=rfl
theorem Zds (dst:Option Tmp) (f:FuncId) (args:List PV) (es:List Eff) (l:Acc):gout P tb nt ks (some (.call f args es,l)) ops base i dst rest accs draw k Q st=
  gcall P tb nt ks f args es (l++Qcm es) ops base i dst rest accs draw k Q st:=rfl
def Zdt (P:Program) (tb:Tab) (nt:Nat) (ks:List Nat) (f:FuncId) (args:List PV) (bxs:List (Nat×Box)) (es:List Eff) (θ ν:List (Nat×Nat)) (l:Acc) (ops:Array Oper) (base i:Nat) (dst:Option Tmp) (rest:List Oper) (accs:List Acc) (draw:Bool) (k:List It) (Q:Exit→St→Prop)
  (st:St):Prop:= ∃r bxs' r' ef,Qbv P f args bxs r bxs'∧land θ ν bxs' r=some (r',ef)∧gops P tb nt ks ops base (i+1) rest ((l++Qcm es++Qcm ef)::accs) draw k Q ((Qan ((if Qj3 r bxs' then []else es)++ef) st).put dst r')
def gland (P:Program) (tb:Tab) (nt:Nat) (ks:List Nat) (x:Option (PV×List Eff)) (fl:Bool) (es:List Eff) (l:Acc) (ops:Array Oper) (base i:Nat) (dst:Option Tmp) (rest:List Oper) (accs:List Acc) (draw:Bool) (k:List It) (Q:Exit→St→Prop)
  (st:St):Prop:=match x with
 |some (r',ef)=>gops P tb nt ks ops base (i+1) rest ((l++Qcm es++Qcm ef)::accs) draw k Q ((Qan ((if fl then []else es)++ef) st).put dst r')
 |none=>False
theorem Q3b (dst:Option Tmp) (f:FuncId) (args:List PV) (bxs:List (Nat×Box)) (es:List Eff) (θ ν:List (Nat×Nat)) (l:Acc):gout P tb nt ks (some (.callB f args bxs es θ ν,l)) ops base i dst rest accs draw k Q st=
  Zdt P tb nt ks f args bxs es θ ν l ops base i dst rest accs draw k Q st:=rfl
theorem Qpm (dst:Option Tmp) (n stop:Nat) (args:List PV) (es:List Eff) (l:Acc):gout P tb nt ks (some (.yield n stop args es,l)) ops base i dst rest accs draw k Q st=
  (yOk st.yl n stop st.out args∧gops P tb nt ks ops base (i+1) rest ((l++Qcm es++[(YID,true)])::accs) draw k Q ((Qan (es++[.yld args]) st).put dst (.bool (decide (st.out.length<stop))))):=rfl
theorem Qcb {dst:Option Tmp} {f:FuncId} {args:List PV} {bxs:List (Nat×Box)} {es:List Eff} {θ ν:List (Nat×Nat)} {l:Acc} {r:PV} {bxs':List (Nat×Box)} (hs:Qbv P f args bxs r bxs')
  (h:gland P tb nt ks (land θ ν bxs' r) (Qj3 r bxs') es l ops base i dst rest accs draw k Q st):Zdt P tb nt ks f args bxs es θ ν l ops base i dst rest accs draw k Q st:=by
 unfold gland at h;split at h
 ·rename_i r' ef hl;exact⟨r,bxs',r',ef,hs,hl,h⟩
 ·exact h.elim
theorem Q3c (r':PV) (ef:List Eff) (fl:Bool) (es:List Eff) (l:Acc) (dst:Option Tmp):gland P tb nt ks (some (r',ef)) fl es l ops base i dst rest accs draw k Q st=
  gops P tb nt ks ops base (i+1) rest ((l++Qcm es++Qcm ef)::accs) draw k Q ((Qan ((if fl then []else es)++ef) st).put dst r'):=rfl
theorem Qak {dst:Option Tmp} {f:FuncId} {args:List PV} {es:List Eff} {l:Acc} {r:PV} (hs:Qaf P f args r)
  (h:gops P tb nt ks ops base (i+1) rest (l::accs) draw k Q ((Qan (if Qhs r then []else es) st).put dst r)):gcall P tb nt ks f args es l ops base i dst rest accs draw k Q st:=⟨r,hs,h⟩
theorem Qw9:Zdl false ops accs=True:=rfl
theorem Qad (h:Qpl ops accs.reverse=true):Zdl true ops accs:=h
end
theorem Zns (P:Program) (rs:List ResultVar) (R:PV→Prop) (s:St):vret P rs R .ret s=match Q23 P rs s with|some r=>R r|none=>False:=rfl
theorem Qxa (P:Program) (rs:List ResultVar) (R:PV→Prop) (s:St):vret P rs R .normal s=match Q23 P rs s with|some r=>R r|none=>False:=rfl
def Zwg (x:Option (List PV×Acc)) (bs:List (Nat×Box)) (o:List (List PV)) (y:Yl) (r:PV) (bxs':List (Nat×Box)):Prop:=match x with
 |some (xs,_)=>Le (St.ofG [(0,Qnt xs)] bs o y) (St.ofG [(0,r)] bxs' o y)
 |none=>False
theorem Q3d (xs:List PV) (l:Acc) (bs:List (Nat×Box)) (o:List (List PV)) (y:Yl) (r:PV) (bxs':List (Nat×Box)):Zwg (some (xs,l)) bs o y r bxs'=Le (St.ofG [(0,Qnt xs)] bs o y) (St.ofG [(0,r)] bxs' o y):=rfl
theorem Qa2 {P:Program} {rs:List ResultVar} {r:PV} {bxs':List (Nat×Box)} {vs:List (Nat×PV)} {bs:List (Nat×Box)} {o:List (List PV)} {y:Yl} {e:Exit} (he:e= .ret∨e= .normal)
  (h:Zwg (Qe1 P (St.ofG vs bs o y) rs (lkp bs)) bs o y r bxs'):Zdb P rs r bxs' e (St.ofG vs bs o y):=by
 unfold Zwg at h;split at h
 ·rename_i xs l hx;rcases he with rfl|rfl
  ·exact⟨xs,l,hx,h⟩
  ·exact⟨xs,l,hx,h⟩
 ·exact h.elim
def rvEq:List ResultVar→List ResultVar→Bool
 |[],[]=>true
 |.tmp a::l,.tmp b::m=>Nat.beq a b&&rvEq l m
 |.cell a t::l,.cell b u::m=>Nat.beq a b&&(Nat.beq t u&&rvEq l m)
 |_,_=>false
theorem rvEq_eq: ∀l m:List ResultVar,rvEq l m=true→l=m
 |[],[],_=>rfl
 |.tmp a::l,.tmp b::m,h=>by
  simp only [rvEq,Bool.and_eq_true]at h;rw [Nat.eq_of_beq_eq_true h.1,rvEq_eq l m h.2]
 |.cell a t::l,.cell b u::m,h=>by
  simp only [rvEq,Bool.and_eq_true]at h;rw [Nat.eq_of_beq_eq_true h.1,Nat.eq_of_beq_eq_true h.2.1,rvEq_eq l m h.2.2]
 |[],_::_,h=>by cases h
 |.tmp _::_,[],h=>by cases h
 |.cell _ _::_,[],h=>by cases h
 |.tmp _::_,.cell _ _::_,h=>by cases h
 |.cell _ _::_,.tmp _::_,h=>by cases h
def entB (P:Program) (f:FuncId) (fn:Func) (nt:Nat) (rs:List ResultVar) (n:Nat):Bool:=callable P f&&(Nat.beq fn.ntmps nt&&(rvEq fn.results.toList rs&&Nat.ble n nt))
theorem entB_parts {P:Program} {f:FuncId} {fn:Func} {nt:Nat} {rs:List ResultVar} {n:Nat} (h:entB P f fn nt rs n=true):callable P f=true∧fn.ntmps=nt∧fn.results.toList=rs∧Nat.ble n nt=true:=by
 simp only [entB,Bool.and_eq_true]at h;exact⟨h.1,Nat.eq_of_beq_eq_true h.2.1,rvEq_eq _ _ h.2.2.1,h.2.2.2⟩
theorem Qab {P:Program} {tb:Tab} {f:FuncId} {fn:Func} {c:Code} {args:List PV} {r:PV} (nt:Nat) (rs:List ResultVar) (ks:List Nat) (hm:P.follows .mixedOrders=true) (hf:P.funcs[f]? =some fn) (hb:fn.body=some c)
  (hx:entB P f fn nt rs args.length=true)
  (h:go P tb nt ks [.code c] (vret P rs (· =r)) (St.of (Qcf 0 args) [])):Qaf P f args r:=
 Qzf nt rs hf hb (entB_parts hx).1 (entB_parts hx).2.1 (entB_parts hx).2.2.1 (entB_parts hx).2.2.2 (Qb5 (tb:=tb) (ks:=ks) hm c _ _ (by
  simp only [go]at h;have:(fun e s=>gleave P tb nt ks [] (vret P rs (· =r)) e s)=vret P rs (· =r):=by funext e s;simp only [gleave]
  rwa [this]at h))
theorem Qbc {P:Program} {tb:Tab} {f:FuncId} {fn:Func} {c:Code} {args:List PV} {bxs bxs':List (Nat×Box)} {r:PV} (nt:Nat) (rs:List ResultVar) (ks:List Nat) (hm:P.follows .mixedOrders=true) (hf:P.funcs[f]? =some fn) (hb:fn.body=some c)
  (hc:callable P f=true) (hnt:fn.ntmps=nt) (hrs:fn.results.toList=rs) (hn:Nat.ble args.length nt=true) (hL:(bxs.all fun p=>Nat.ble LENT p.1)=true)
  (h:go P tb nt ks [.code c] (Zdb P rs r bxs') (St.of (Qcf 0 args) bxs)):Qbv P f args bxs r bxs':=
 Zdc nt rs hf hb hc hnt hrs hn hL (Qb5 (tb:=tb) (ks:=ks) hm c _ _ (by
  simp only [go]at h;have:(fun e s=>gleave P tb nt ks [] (Zdb P rs r bxs') e s)=Zdb P rs r bxs':=by funext e s;simp only [gleave]
  rwa [this]at h))
theorem Qas {P:Program} {tb:Tab} {nt:Nat} {ks:List Nat} {k:List It} {Q:Exit→St→Prop} {st:St} {α:Type} (hm:P.follows .mixedOrders=true) (I:α→St) (μ:α→Nat) {c:Code} (x0:α) (h0:Le st (I x0))
  (round: ∀x,go P tb nt ks (.code c:: .again (fun s=> ∃y,μ y<μ x∧Le s (I y))::k) Q (I x)):go P tb nt ks (.code (.loop c)::k) Q st:=by
 simp only [go,vx];refine Qzb I μ x0 h0 fun x=>Qdt (Qb5 (tb:=tb) (ks:=ks) hm c _ _ (by have:=round x;simpa only [go]using this)) ?_;intro e s h;cases e<;>simpa only [gleave,vthen]using h
end Go.Vl

namespace Go.Vl
theorem Qag {n:Int} (h1: -9223372036854775808≤n) (h2:n≤9223372036854775807):IntKind.i64.wrap n=n:=IntWalk.i64_in n ⟨h1,h2⟩
theorem Qa0 {vs vs':List (Nat×PV)} {bs:List (Nat×Box)} {o:List (List PV)} {y:Yl} (hv:Qac [] vs vs'):Le (St.ofG vs bs o y) (St.ofG vs' [] o y):=
 Qaj (θ:=[]) rfl hv trivial
end Go.Vl

namespace Go.Vl
open Go.RowKit
inductive TT where
 |bool
 |int (k:IntKind)
 |str
 |slc (e:TT)
 |agg (fs:List TT)
mutual
def TT.size:TT→Nat
 | .agg fs=>TT.sizes fs
 | .bool| .int _| .str| .slc _=>1
def TT.sizes:List TT→Nat
 | []=>0
 |f::fs=>f.size+TT.sizes fs
end
mutual
def TT.fits (P:Program):TT→TypeId→Bool
 | .bool,t=>match P.underlying t with
  |some .bool=>true
  |_=>false
 | .int k,t=>match P.underlying t with
  |some (.int k')=>decide (k'=k)
  |_=>false
 | .str,t=>match P.underlying t with
  |some .string=>true
  |_=>false
 | .slc e,t=>match P.underlying t with
  |some (.slice te)=>e.fits P te&&Nat.beq (P.cellsOf te) e.size&&Nat.ble 1 e.size
  |_=>false
 | .agg fs,t=>match P.underlying t with
  |some (.struct xs)=>TT.fitsL P fs xs.toList 0&&Nat.beq (P.cellsOf t) (TT.sizes fs)
  |_=>false
def TT.fitsL (P:Program):List TT→List Field→Nat→Bool
 | [],[],_=>true
 |f::fs,x::xs,off=>f.fits P x.type&&Nat.beq x.offset off&&Nat.beq (P.cellsOf x.type) f.size&&TT.fitsL P fs xs (off+f.size)
 |_,_,_=>false
end
def TT.mk:TT→List PV→PV
 | .agg _,cs=> .agg cs
 |_,cs=>cs.headD .undef
mutual
def Qbz:TT→List PV→Prop
 | .bool,cs=> ∃b,cs=[.bool b]
 | .int k,cs=> ∃n,cs=[.int k n]∧(Lit.int k n).wf=true
 | .str,cs=> ∃s:ByteArray,cs=[.str s]∧s.size≤maxLen
 | .slc e,cs=> ∃ess:List (List PV),cs=[.slc (ess.map e.mk)]∧ess.length≤maxLen∧ ∀c∈ess,Qbz e c
 | .agg fs,cs=>Qd0 fs cs
def Qd0:List TT→List PV→Prop
 | [],cs=>cs=[]
 |f::fs,cs=> ∃a b,cs=a++b∧Qbz f a∧Qd0 fs b
end
theorem Qzg {e:TT} {c:List PV} (h:Qbz e c):(e.mk c).cells=c:=by
 cases e with
 |bool=>simp only [Qbz]at h;obtain⟨b,rfl⟩:=h;rfl
 |int k=>simp only [Qbz]at h;obtain⟨b,rfl,_⟩:=h;rfl
 |str=>simp only [Qbz]at h;obtain⟨b,rfl,_⟩:=h;rfl
 |slc e=>simp only [Qbz]at h;obtain⟨b,rfl,_⟩:=h;rfl
 |agg fs=>rfl
mutual
theorem Qbz.length: ∀{e:TT} {c:List PV},Qbz e c→c.length=e.size
 | .bool,c,h=>by simp only [Qbz]at h;obtain⟨b,rfl⟩:=h;simp [TT.size]
 | .int k,c,h=>by simp only [Qbz]at h;obtain⟨b,rfl,_⟩:=h;simp [TT.size]
 | .str,c,h=>by simp only [Qbz]at h;obtain⟨b,rfl,_⟩:=h;simp [TT.size]
 | .slc e,c,h=>by simp only [Qbz]at h;obtain⟨b,rfl,_⟩:=h;simp [TT.size]
 | .agg fs,c,h=>by simp only [Qbz]at h;simp only [TT.size];exact Qd0.length h
theorem Qd0.length: ∀{fs:List TT} {c:List PV},Qd0 fs c→c.length=TT.sizes fs
 | [],c,h=>by simp only [Qd0]at h;subst h;simp [TT.sizes]
 |f::fs,c,h=>by
  simp only [Qd0]at h;obtain⟨a,b,rfl,h1,h2⟩:=h;simp only [TT.sizes,List.length_append,h1.length,h2.length]
end
def exIm (w:World):Im:=fun g j=> ∃u,w.cell? ⟨g,j,none⟩=some u
section
variable {H:Type} {enc:TypeId×Value→H} {P:Program} {w:World} {base:Nat} {held:Bool}
theorem Qxb {im:Im} {A:Option Addr} {c:Nat} (hm:c≤maxLen):Rep w im (.slc []) (.slice A 0 c):=by
 cases A with
 |none=>exact .slcNil c hm
 |some p=>exact .slcE p c hm
mutual
theorem Qrn: ∀(tt:TT) (t:TypeId) (fuel:Nat) (cs:List Value) (x:DataW H×List MemPlace),tt.fits P t=true→DataW.trod enc P w base (fun _=>true) held fuel t cs=some x→
  ∃pvs,RepL w (exIm w) pvs cs∧Qbz tt pvs
 | .bool,t,fuel,cs,x,hf,h=>by
  simp only [TT.fits]at hf;split at hf
  ·rename_i ht;obtain⟨b,rfl,_⟩:=DataW.trod_bool ht h;exact⟨[.bool b],.cons _ _ _ _ (.bool b) .nil,by simp [Qbz]⟩
  ·cases hf
 | .int k,t,fuel,cs,x,hf,h=>by
  simp only [TT.fits]at hf;split at hf
  ·rename_i k' ht;have hk:k'=k:=of_decide_eq_true hf;subst hk;obtain⟨n,rfl,_,hw⟩:=DataW.trod_int ht h;exact⟨[.int k' n],.cons _ _ _ _ (.int _ n) .nil,by simp [Qbz,hw]⟩
  ·cases hf
 | .str,t,fuel,cs,x,hf,h=>by
  simp only [TT.fits]at hf;split at hf
  ·rename_i ht;obtain⟨s,rfl,_,hs⟩:=DataW.trod_string ht h;exact⟨[.str s],.cons _ _ _ _ (.str s) .nil,by simp only [Qbz];exact⟨s,rfl,hs⟩⟩
  ·cases hf
 | .slc e,t,fuel,cs,x,hf,h=>by
  simp only [TT.fits]at hf;split at hf
  ·rename_i te ht;simp only [Bool.and_eq_true]at hf;obtain⟨⟨hf1,hf2⟩,hf3⟩:=hf;have hsz:=Nat.eq_of_beq_eq_true hf2;have hpos:=Nat.le_of_ble_eq_true hf3;rcases DataW.trod_slice ht h with⟨rfl,_⟩|⟨a,len,cap,elems,rest,n,_,rfl,_,_,hl,hm,hlen,hel,_,_⟩
   ·exact⟨[.slc []],.cons _ _ _ _ (.slcNil 0 (Nat.zero_le _)) .nil,by simp only [Qbz];exact⟨[],rfl,Nat.zero_le _,by simp⟩⟩
   ·rcases Nat.eq_zero_or_pos len with rfl|hpl
    ·exact⟨[.slc []],.cons _ _ _ _ (Qxb hm) .nil,by simp only [Qbz];exact⟨[],rfl,Nat.zero_le _,by simp⟩⟩
    ·have each: ∀i,i<len→ ∃ci pi,w.cells? base (a.add (i*e.size)) e.size=some ci∧RepL w (exIm w) pi ci∧Qbz e pi:=by
      intro i hi;have hi':=hel i hi;rw [hsz]at hi';have hs:elems[i]? =some elems[i]:=List.getElem?_eq_getElem (by omega);rw [hs,Option.bind_eq_some_iff]at hi';obtain⟨ci,h1,h2⟩:=hi';obtain⟨pi,h3,h4⟩:=Qrn e te n ci _ hf1 h2;exact⟨ci,pi,h1,h3,h4⟩
     obtain⟨g,off,rfl⟩: ∃g off,a=⟨g,off,none⟩:=by
      obtain⟨c0,p0,h1,h2,h3⟩:=each 0 hpl;obtain⟨_,hl0,hc0⟩:=World.cells?_some h1;have h00:=hc0 0 (by omega);have:c0[0]? =some c0[0]:=List.getElem?_eq_getElem (by omega);rw [this]at h00;have hsp:=World.cell?_spot h00;simp [Addr.add]at hsp;obtain⟨g,off,sp⟩:=a;simp at hsp;subst hsp;exact⟨g,off,rfl⟩
     have hadd: ∀j,(⟨g,off,none⟩:Addr).add j=⟨g,off+j,none⟩:=fun j=>by unfold Addr.add;split<;>simp_all
     have build: ∀k,k≤len→ ∃(ess:List (List PV)) (vs:List Value),ess.length=k∧vs.length=k*e.size∧RepL w (exIm w) ((ess.map e.mk).flatMap PV.cells) vs∧(∀j,j<vs.length→w.cell? ⟨g,off+j,none⟩=vs[j]?)∧ ∀c∈ess,Qbz e c:=by
      intro k
      induction k with
      |zero=>intro _;exact⟨[],[],rfl,by simp,.nil,by simp,by simp⟩
      |succ k ih=>
       intro hk;obtain⟨ess,vs,e1,e2,e3,e4,e5⟩:=ih (by omega);obtain⟨ci,pi,h1,h2,h3⟩:=each k hk;obtain⟨_,hl0,hc0⟩:=World.cells?_some h1;refine⟨ess++[pi],vs++ci,by simp [e1],by simp [e2,hl0,Nat.succ_mul],?_,?_,?_⟩
       ·simp only [List.map_append,List.map_cons,List.map_nil,List.flatMap_append,List.flatMap_cons,List.flatMap_nil,List.append_nil,Qzg h3];exact e3.append h2
       ·intro j hj;by_cases hjv:j<vs.length
        ·rw [List.getElem?_append_left hjv];exact e4 j hjv
        ·rw [List.getElem?_append_right (by omega)];have hjc:j-vs.length<e.size:=by simp at hj;omega
         have:=hc0 (j-vs.length) hjc;rw [hadd]at this;have hadd2:(⟨g,off+k*e.size,none⟩:Addr).add (j-vs.length)=⟨g,off+k*e.size+(j-vs.length),none⟩:=by unfold Addr.add;split<;>simp_all
         rw [hadd2]at this;rw [←this];congr 2;omega
       ·intro c hc;rcases List.mem_append.1 hc with hc|hc
        ·exact e5 c hc
        ·simp at hc;subst hc;exact h3
     obtain⟨ess,vs,e1,e2,e3,e4,e5⟩:=build len (Nat.le_refl _);refine⟨[.slc (ess.map e.mk)],.cons _ _ _ _ ?_ .nil,by simp only [Qbz];exact⟨ess,rfl,by omega,e5⟩⟩;refine .slc _ g off len cap e.size vs (by simpa using e1) (by omega) ?_ ?_ e4 e3 hl
     ·intro x hx;simp only [List.mem_map]at hx;obtain⟨c,hc,rfl⟩:=hx;rw [Qzg (e5 c hc)];exact(e5 c hc).length
     ·intro j hj;exact⟨vs[j],by rw [e4 j hj,List.getElem?_eq_getElem hj]⟩
  ·cases hf
 | .agg fs,t,fuel,cs,x,hf,h=>by
  simp only [TT.fits]at hf;split at hf
  ·rename_i xs ht;simp only [Bool.and_eq_true]at hf;obtain⟨hf1,hf2⟩:=hf;obtain⟨ys,n,rfl,_,hlen,hsz,hfl⟩:=DataW.trod_struct ht h;have hall: ∀(i:Nat) (f:Field),xs.toList[i]? =some f→ ∃y,DataW.trod enc P w base (fun _=>true) held n f.type ((cs.drop f.offset).take (P.cellsOf f.type))=some y:=by
    intro i f hi;have hi':xs[i]? =some f:=by simpa using hi
    have:=hfl i f hi';have hlt:i<ys.length:=by rw [hsz];exact(Array.getElem?_eq_some_iff.1 hi').1
    rw [List.getElem?_eq_getElem hlt]at this;exact⟨_,this⟩
   obtain⟨pvs,h1,h2⟩:=Qt9 fs xs.toList 0 n cs hf1 hall (by rw [hlen,Nat.eq_of_beq_eq_true hf2];simp);exact⟨pvs,by simpa using h1,by simp only [Qbz];exact h2⟩
  ·cases hf
theorem Qt9: ∀(fs:List TT) (xs:List Field) (off n:Nat) (cs:List Value),TT.fitsL P fs xs off=true→
  (∀(i:Nat) (f:Field),xs[i]? =some f→ ∃y,DataW.trod enc P w base (fun _=>true) held n f.type ((cs.drop f.offset).take (P.cellsOf f.type))=some y)→cs.length=off+TT.sizes fs→
  ∃pvs,RepL w (exIm w) pvs (cs.drop off)∧Qd0 fs pvs
 | [],[],off,n,cs,hf,h,hl=>by
  simp only [TT.sizes]at hl;refine⟨[],?_,by simp [Qd0]⟩;rw [List.drop_of_length_le (by omega)];exact .nil
 | [],_::_,_,_,_,hf,_,_=>by simp [TT.fitsL]at hf
 |_::_,[],_,_,_,hf,_,_=>by simp [TT.fitsL]at hf
 |f::fs,x::xs,off,n,cs,hf,h,hl=>by
  simp only [TT.fitsL,Bool.and_eq_true]at hf;obtain⟨⟨⟨hf1,hf2⟩,hf3⟩,hf4⟩:=hf;have e2:=Nat.eq_of_beq_eq_true hf2;have e3:=Nat.eq_of_beq_eq_true hf3;simp only [TT.sizes]at hl;obtain⟨y,hy⟩:=h 0 x (by simp);rw [e2,e3]at hy;obtain⟨a,h1,h2⟩:=Qrn f x.type n _ y hf1 hy;obtain⟨b,h3,h4⟩:=Qt9 fs xs (off+f.size) n cs hf4 (fun i f hi=>h (i+1) f (by simpa using hi)) (by omega);refine⟨a++b,?_,by simp only [Qd0];exact⟨a,b,rfl,h2,h4⟩⟩;have:cs.drop off=(cs.drop off).take f.size++cs.drop (off+f.size):=by
   rw [←List.drop_drop,List.take_append_drop]
  rw [this];exact h1.append h3
end
end
section
variable {H:Type} {enc:TypeId×Value→H} {P:Program} {W W':World}
theorem Zwh {tt:TT} {t:TypeId} {v:Value} {d:DataW H} {ps:List MemPlace} {b:Nat} (hf:tt.fits P t=true) (hok:Value.okWide P W .any b t v) (h:DataW.Trod enc P W 0 (fun _=>true) true t v d ps):
  ∃cs,Qbz tt cs∧Rep W (exIm W) (tt.mk cs) v:=by
 obtain⟨fuel,h⟩:=h;obtain⟨pvs,h1,h2⟩:=Qrn tt t fuel _ _ hf h;refine⟨pvs,h2,?_⟩;have single:v.cells= #[v]→(∀fs,tt≠ .agg fs)→Rep W (exIm W) (tt.mk pvs) v:=by
  intro hv hn;rw [hv]at h1;have hl:=h1.length
  match pvs,hl with
  | [p],_=>
   cases h1 with
   |cons _ _ _ _ h t=>
    cases tt with
    |agg fs=>exact absurd rfl (hn fs)
    |_=>exact h
 cases tt with
 |bool=>
  simp only [TT.fits]at hf;split at hf
  ·rename_i ht;obtain⟨x,rfl⟩:=WideShapes.okWide_bool ht hok;exact single rfl (by simp)
  ·cases hf
 |int k=>
  simp only [TT.fits]at hf;split at hf
  ·rename_i ht;obtain⟨x,rfl⟩:=WideShapes.okWide_int ht hok;exact single rfl (by simp)
  ·cases hf
 |str=>
  simp only [TT.fits]at hf;split at hf
  ·rename_i ht;obtain⟨x,rfl⟩:=WideShapes.okWide_string ht hok;exact single rfl (by simp)
  ·cases hf
 |slc e=>
  simp only [TT.fits]at hf;split at hf
  ·rename_i te ht;obtain⟨x,y,z,rfl⟩:=WideShapes.okWide_slice ht hok;exact single rfl (by simp)
  ·cases hf
 |agg fs=>
  simp only [TT.fits]at hf;split at hf
  ·rename_i xs ht;obtain⟨cs,rfl,_⟩:=WideShapes.okWide_struct ht hok;have:=Rep.agg pvs _ h1;simp only [Value.cells,Array.toArray_toList]at this;exact this
  ·cases hf
def Qxc:List TT→List PV→Prop
 | [],vs=>vs=[]
 |t::ts,vs=> ∃c rest,vs=t.mk c::rest∧Qbz t c∧Qxc ts rest
def Qkg (P:Program):List TT→List TypeId→Bool
 | [],[]=>true
 |tt::tts,t::ts=>tt.fits P t&&Qkg P tts ts
 |_,_=>false
theorem Qzh {b:Nat}: ∀(tts:List TT) (ts:List TypeId) (vs:List Value) (ds:List (DataW H)) (ps:List MemPlace),Qkg P tts ts=true→(∀(j:Nat) t v,ts[j]? =some t→vs[j]? =some v→Value.okWide P W .any b t v)→
  DataW.TrodAll enc P W 0 (fun _=>true) true ts vs ds ps→ ∃pvs,Qxc tts pvs∧RepL W (exIm W) pvs vs∧ds.length=tts.length
 | [],[],[],[],_,_,_,_=>⟨[],rfl,.nil,rfl⟩
 |tt::tts,t::ts,v::vs,d::ds,ps,hf,hok,h=>by
  simp only [Qkg,Bool.and_eq_true]at hf;obtain⟨p,q,h1,h2,_⟩:=h;obtain⟨c,h3,h4⟩:=Zwh hf.1 (hok 0 t v rfl rfl) h1;obtain⟨pvs,h5,h6,h7⟩:=Qzh tts ts vs ds q hf.2 (fun j t v e1 e2=>hok (j+1) t v (by simpa using e1) (by simpa using e2)) h2;exact⟨tt.mk c::pvs,⟨c,pvs,rfl,h3,h5⟩,.cons _ _ _ _ h4 h6,by simp [h7]⟩
 | [],_::_,_,_,_,hf,_,_=>by simp [Qkg]at hf
 |_::_,[],_,_,_,hf,_,_=>by simp [Qkg]at hf
 | [],[],[],_::_,_,_,_,h=>h.elim
 | [],[],_::_,_,_,_,_,h=>h.elim
 |_::_,_::_,[],_,_,_,_,h=>h.elim
 |_::_,_::_,_::_,[],_,_,_,h=>h.elim
theorem Qjn {sp:Nat→Bool} (hl:laidOutB P=true) (hb:Below W.heap.size W W'): ∀(ts:List TypeId) (vs:List Value) (ds:List (DataW H)) (ps:List MemPlace),(∀t∈ts,P.readableRec t=true∧t<P.types.size)→
  DataW.TrodAll enc P W 0 (fun _=>true) true ts vs ds ps→(∀p∈ps,p.block<W.heap.size)→(∀p∈ps,sp p.block=true)→DataW.TrodAll enc P W' 0 sp true ts vs ds ps
 | [],[],[],_,_,h,_,_=>h
 |t::ts,v::vs,d::ds,ps,ht,⟨p,q,h1,h2,e⟩,hlt,hs=>by
  subst e;refine⟨p,q,?_,Qjn hl hb ts vs ds q (fun t h=>ht t (List.mem_cons_of_mem _ h)) h2 (fun x hx=>hlt x (List.mem_append_right _ hx)) (fun x hx=>hs x (List.mem_append_right _ hx)),rfl⟩;exact WideElems.Trod_stays hl (ht t (by simp)).1 (ht t (by simp)).2 h1 (fun x hx=>hb.same (hlt x (List.mem_append_left _ hx))) (fun x hx=>hs x (List.mem_append_left _ hx))
 | [],[],_::_,_,_,h,_,_=>h.elim
 | [],_::_,_,_,_,h,_,_=>h.elim
 |_::_,[],_,_,_,h,_,_=>h.elim
 |_::_,_::_,[],_,_,h,_,_=>h.elim
theorem Qxd {fn:Func} {s:ChangeSpec} {apart fresh handsOn again:Bool} {args:Array Value} {ds gs:List (DataW H)} {before:List MemPlace} {tb:TypeId} (hl:laidOutB P=true) (hvars:s.vars=[]) (hres:fn.resultTypes= #[tb])
  (hbool:P.underlying tb=some .bool) (hts: ∀t∈fn.params.toList,P.readableRec t=true∧t<P.types.size) (hW:DataW.Whole enc P fn.params.toList s.vars apart W args.toList ds gs before)
  (hs:s.fn H (ds++gs)={results:=[.lit (.bool true)],args:=ds}) (hb:Below W.heap.size W W'):s.post enc P fn apart fresh handsOn again W args (.bool true) W':=by
 have hlt:=hW.lt;have hW':=hW;obtain⟨p,q,hA,hV,rfl,hz,hn⟩:=hW;rw [hvars]at hV;obtain⟨rfl,rfl⟩:=ChangeShapes.trodVars_none hV;have hargs: ∀sp:Nat→Bool,(∀x∈p,sp x.block=true)→DataW.TrodAll enc P W' 0 sp true fn.params.toList args.toList ds p:=fun sp hsp=>
  Qjn hl hb _ _ _ _ hts hA (fun x hx=>hlt x (by simpa using hx)) hsp
 have hres': ∀(b:Nat) (sp:Nat→Bool) (hd:Bool),DataW.TrodAll enc P W' b sp hd fn.resultTypes.toList ((Value.bool true).resultList fn.resultTypes.size) [.lit (.bool true)] []:=by
  intro b sp hd;rw [hres];exact ChangeShapes.trodAll_mk1 (shut_bool hbool true)
 have hok: ∀(j:Nat) (t:TypeId) (r:Value),fn.resultTypes[j]? =some t→((Value.bool true).resultList fn.resultTypes.size)[j]? =some r→Value.okWide P W' .any 0 t r:=ok_one hres rfl (okWide_bool_mk hbool true);have hvs: ∀sp:Nat→Bool,DataW.TrodVars enc P W' sp s.vars [] []:=fun sp=>by rw [hvars];rfl
 refine⟨ds,[],p++[],[],p,[],hW',?_,?_,?_,?_,fun _=>⟨hok,[.lit (.bool true)]++ds,[],([]++p)++[],⟨[]++p,[],?_,hvs _,rfl,?_,?_⟩,?_⟩⟩
 ·rw [hs];exact hres' _ _ _
 ·rw [hs];exact hargs _ fun x hx=>by simpa using hlt x (by simpa using hx)
 ·rw [hs];exact hvs _
 ·exact World.keptBut_mono (fun _ f=>f.elim) (hb.frame fun _=>False)
 ·exact ChangeShapes.trodAll_append (hargs _ fun _ _=>rfl) (hres' _ _ _)
 ·intro b off hp;have hp':MemPlace.cell b off∈p:=by simpa using hp
  have:=hz b off (by simpa using hp');have hlt':=hlt _ (show MemPlace.cell b off∈p++[]by simpa using hp');rw [←this];exact hb.frozen hlt'
 ·intro ha;have:=hn ha;simpa using this
 ·intro x hx _;simpa using hx
theorem Qpn {a:Assume} {C:Checked} {os:Os} {f:FuncId} {fn:Func} {s:ChangeSpec} {conds:List PathCond} {apart fresh handsOn again:Bool} {tb:TypeId} (tts:List TT)
  (own:ownKnob C.prog.godebug=none) (started:os.Started) (noInit:C.prog.inits.idxOf? f=none) (hfn:C.prog.funcs[f]? =some fn)
  (witness: ∃(w:World) (tape:Tape) (i:Input),w.os=os∧(w.forCall tape i).Shaped C.prog∧i.vars=[]∧Input.okWide C.prog (w.forCall tape i) .any w.heap.size f i∧
   s.pre6 enc C.prog fn conds apart (w.forCall tape i).memory i.args∧a.holds C.prog (lone (Frame.enter C.prog f i.args .normal) [] (w.forCall tape i)))
  (hl:laidOutB C.prog=true) (hvars:s.vars=[]) (hres:fn.resultTypes= #[tb]) (hbool:C.prog.underlying tb=some .bool) (hts:(fn.params.toList.all fun t=>C.prog.readableRec t&&decide (t<C.prog.types.size))=true)
  (hfit:Qkg C.prog tts fn.params.toList=true) (hs: ∀ds:List (DataW H),ds.length=tts.length→s.fn H ds={results:=[.lit (.bool true)],args:=ds})
  (hcl:callable C.prog f=true) (hnv:C.prog.globalNamed Qwd=none∧C.prog.globalNamed Zcb=none) (law: ∀pvs,Qxc tts pvs→Qaf C.prog f pvs (.bool true)):
  ReturnsInHanded a C os f .any (s.pre6 enc C.prog fn conds apart) (s.post enc C.prog fn apart fresh handsOn again):=by
 refine returnsInHanded_of_change own started noInit hfn witness ?_;intro W base args ds gs before hval hW _ _;have hW':=hW;obtain⟨p,q,hA,hV,rfl,hz,hn⟩:=hW;rw [hvars]at hV;obtain⟨rfl,rfl⟩:=ChangeShapes.trodVars_none hV;obtain⟨pvs,h1,h2,h3⟩:=Qzh tts fn.params.toList args.toList ds p hfit (fun j t v e1 e2=>hval j t v (by simpa using e1) (by simpa using e2)) hA;have hts': ∀t∈fn.params.toList,C.prog.readableRec t=true∧t<C.prog.types.size:=by
  intro t ht;have:=List.all_eq_true.1 hts t ht;simpa using this
 have hlay:Laid C.prog W.heap.size W:=by
  rintro nm tab (⟨rfl,_⟩|⟨rfl,_⟩) g hg
  ·rw [hnv.1]at hg;cases hg
  ·rw [hnv.2]at hg;cases hg
 have hcall:=((law pvs h1).resolve_right (fun x=>by rw [hcl]at x;cases x.1)).2 W (exIm W) args.toList W.heap.size (Nat.le_refl _) hlay h2 (fun g j x=>x);refine(by simpa using hcall:Calls C.prog f args W _).mono ?_;rintro e W' ⟨v,rfl,hb,hr⟩;have hv:v= .bool true:=by cases hr;rfl
 subst hv;exact⟨_,rfl,Qxd hl hvars hres hbool hts' hW' (by rw [List.append_nil];exact hs ds h3) hb⟩
end
end Go.Vl

namespace Go.Vl
theorem Z3e:List.range 1=[0]:=rfl
theorem Z3f:List.range 2=[0,1]:=rfl
theorem Z3g:List.range 3=[0,1,2]:=rfl
theorem Z3h:List.range 4=[0,1,2,3]:=rfl
theorem Z3i:List.range 5=[0,1,2,3,4]:=rfl
theorem Z3j:List.range 6=[0,1,2,3,4,5]:=rfl
theorem Z3k:List.range 7=[0,1,2,3,4,5,6]:=rfl
theorem Z3l:List.range 8=[0,1,2,3,4,5,6,7]:=rfl
section
variable (cs:List PV) (b:Bool) (k:IntKind) (n:Int) (s:ByteArray) (e i o l:Nat) (f:FuncId) (a c:List PV)
theorem Z3m:(PV.agg cs).cells=cs:=rfl
theorem Z0s:(PV.bool b).cells=[.bool b]:=rfl
theorem Z3n:(PV.int k n).cells=[.int k n]:=rfl
theorem Z3o:(PV.str s).cells=[.str s]:=rfl
theorem Z0t:PV.nilS.cells=[.nilS]:=rfl
theorem Z0u:PV.nilF.cells=[.nilF]:=rfl
theorem Z0v:PV.nilI.cells=[.nilI]:=rfl
theorem Z0w:PV.nilP.cells=[.nilP]:=rfl
theorem Z0x:PV.nilP.okCell=true:=rfl
theorem Z0y:PV.anyB.cells=[.anyB]:=rfl
theorem Z3p:(PV.slc cs).cells=[.slc cs]:=rfl
theorem Z3q:(PV.tup cs).cells=[.tup cs]:=rfl
theorem c_rp:(PV.rp cs).cells=[.rp cs]:=rfl
theorem c_bp:(PV.bp e i o l).cells=[.bp e i o l]:=rfl
theorem c_bs:(PV.bs e i o l).cells=[.bs e i o l]:=rfl
theorem c_fn:(PV.fn f a c).cells=[.fn f a c]:=rfl
theorem Z3r:(PV.agg cs).okCell=false:=rfl
theorem Z0z:(PV.bool b).okCell=true:=rfl
theorem Z3s:(PV.int k n).okCell=true:=rfl
theorem Z3t:(PV.str s).okCell=true:=rfl
theorem Z00:PV.nilS.okCell=true:=rfl
theorem Z01:PV.nilF.okCell=true:=rfl
theorem Z02:PV.nilI.okCell=true:=rfl
theorem Z3u:(PV.slc cs).okCell=true:=rfl
theorem Z3v:(PV.tup cs).okCell=false:=rfl
theorem k_rp:(PV.rp cs).okCell=true:=rfl
theorem k_bp:(PV.bp e i o l).okCell=true:=rfl
theorem k_bs:(PV.bs e i o l).okCell=true:=rfl
theorem k_fn:(PV.fn f a c).okCell=true:=rfl
end
attribute [go_sem] Z0w Z0x Zv9 Zwa Z0o Qi6 Zce Z0y Z3m Z0s Z3n Z3o Z0t Z0u Z0v Z3p Z3q c_rp c_bp c_bs c_fn Z3r Z0z Z3s Z3t Z00 Z01 Z02 Z3u Z3v k_rp k_bp k_bs k_fn Int.toNat_natCast Int.toNat_zero Int.le_refl
theorem Zwi (P:Program) (id:Nat) (bx:Bx) (fo:Operand) (xs0:Array Operand) (ts:Array TypeId) (f:FuncId) (first cap args:List PV):Qa6 P [] id (.call ⟨.value fo,xs0,ts⟩) (.fn f first cap::args) bx=
  M.bind (Qev first) (fun x=> .bind (Qgh args) fun y=> .bind (Qev cap) fun z=> .pure (.call f (x.1++y.1++z.1) (x.2++y.2++z.2))) bx:=rfl
attribute [go_sem] Zwi
theorem Qro (P:Program) (id:Nat) (bx:Bx) (T n:Nat) (parts:Array (Nat×Operand)) (vs:List PV):Qa6 P [] id (.buildSlice T n parts) vs bx=
  M.bind (.ok (parts.toList.map (·.1)==List.range n&&n≤1000)) (fun _=> .bind (.ofOpt (Qbl P T)) fun E=> .bind (.ofOpt (Qap P E)) fun q=>
   .bind (.ofOpt (Qar P E)) fun z=> .bind (.hard id) fun b=> .bind (Qgh vs) fun ys=>
   .bind (.ok (b.isNone&&z.cells.length==q.1&&ys.1.length==n&&(ys.1.all fun e=>e.cells.length==q.1&&Qa4 e.cells)&&0<q.1&&q.1≤1000)) fun _=>
   .pure (.done (.bs id q.1 0 n) (ys.2++[.new id {els:=ys.1,esz:=q.1,ety:=E,fro:=0,live:=true,arr:=true}]))) bx:=rfl
theorem Zdu (P:Program) (id:Nat) (bx:Bx) (asx:Array Operand) (ts:Array TypeId) (s x:PV):Qa6 P [] id (.call ⟨.builtin .append,asx,ts⟩) [s,x] bx=
  M.bind (.ofOpt ts[0]?) (fun t=> .bind (.ofOpt ts[1]?) fun t2=> .bind (.ok (ts.size==2)) fun _=>Qdr P id t t2 s x) bx:=rfl
attribute [go_sem] Qro Zdu Qrl Zdk Qi7 appendD
theorem Q3e:(none:Option Operand).toArray= #[]:=rfl
theorem Q3f (x:Operand):(some x).toArray= #[x]:=rfl
attribute [go_sem] Q3e Q3f List.range_zero Nat.le_refl Nat.zero_le
attribute [go_sem] Z3a Z3b Zwd Z0p Zwe Z3c Zwf Z0q Zdn Q28 Qw7 Zdo
attribute [go_sem] Z3d Z0r Q29 Qw8 Zdp Znq Znr Zdq Qrm Qt8 Q3a Zdr Zds
attribute [go_sem] Q3b Qpm Q3c Qw9 Zns Qxa Q3d Z0k Zna Qri Qrj Qrk
attribute [go_sem] Znf Zng Zv1 Z2m Zv2 Qt7 Zdh Zdi Zv3 Z2n Z2o Z2p
attribute [go_sem] Z0l Q27 Qw4 Znl Qfp Z2q Qwg Zcf Qmy Qi3 Qm1 Qi4 Qdq Qgl Qys Qm2 Qeq Znk Znh Zni Znj Znm Qok Qol Zv4 Qom Qon
attribute [go_sem] Qoo Qnv Qw5 Qw6 Zdj Z2r Znn Z2s Z2t Zo6 Zo7 Z0m
attribute [go_sem] Zdd Znb Qw3 Znc Q26 Qt6 Zvz Zv0 Znd Zne Zde Zdf Zdg Qkp Qkq Qhq Qkr Qks Box.put Box.fill
attribute [go_sem] Zv5 Z2u Z2v Z2w Z2x Z2y Z2z Z0n b_or Z20 Z21 Z22
attribute [go_sem] Z23 Z24 Z25 Z26 Z27 Zv6 Z28 Z29 Q21 Qcp Qji St.evs
attribute [go_sem] St.ev Op.operands Call.operands M.bind M.pure M.ofOpt M.ok M.soft M.hard Z0g Qw1 Qzd
attribute [go_sem] Qhy Zc9 Zwb Qhm lkp Qfm Qep Qci Qcf Qbu Qay Eff.on
attribute [go_sem] Qcm Eff.id Eff.hard Q23 Qe1 Qrh Qnt esc0 escS Zcc escE Q2g escL escC Qev esc1
attribute [go_sem] Qgh Qdf Vl.newVar Qa4    PV.putCells PV.one Qhs Zcu Qwn Box.soft
attribute [go_sem] List.toList_toArray List.getElem?_toArray List.getElem?_cons_zero List.getElem?_cons_succ Option.bind_some Option.map_some Option.bind_none Option.map_none List.map_cons List.map_nil List.append_nil List.nil_append
attribute [go_sem] List.cons_append decide_true decide_false if_true if_false true_and and_true Bool.and_true Bool.true_and Bool.and_self beq_self_eq_true List.all_cons
attribute [go_sem] List.all_nil List.length_cons List.length_nil Nat.zero_add Nat.add_zero Nat.zero_mul List.drop_zero List.contains_cons gt_iff_lt ge_iff_le Option.isNone_none Option.isNone_some
attribute [go_sem] Array.toList_empty Array.append_empty Array.empty_append List.size_toArray List.take_zero List.push_toArray List.append_toArray Option.isSome_some Option.isSome_none List.drop_succ_cons List.take_succ_cons List.take_nil
attribute [go_sem] List.drop_nil List.getElem_cons_zero List.getElem_cons_succ Nat.not_lt_zero Bool.false_eq_true Bool.true_eq_false not_true_eq_false not_false_eq_true if_neg Nat.lt_irrefl Bool.not_true Bool.not_false
attribute [go_sem] Bool.and_false Bool.false_and Bool.or_false Bool.or_true Bool.false_or Bool.true_or List.flatMap_cons List.flatMap_nil List.set_cons_zero List.set_cons_succ beq_true beq_false
attribute [go_sem] Bool.true_beq Bool.false_beq eq_self Bool.not_not ite_self ne_eq Z0h Z0i Z2l Qcu Qd7 Qcv Qdr Qgn Qgm
attribute [go_sem] Qo2 Qkn Qhp Qhf Qqs Qm3 Qwe Qi8 Qfo Box.over Qat Qfn Zcd
attribute [go_sem] Q2h Qo3 Q2i Qgk Qgj Qmz Qyr Qgi Qc9 Q2j Q2k Qm0 Qi2 rlk land Qe8 ren0 Qah ren1 Qhn ren2
attribute [go_sem] Qj3 flatr Qs0 Qs1 flatc Qct Box.ext  LENT YID List.zip_cons_cons List.zip_nil_left List.zip_nil_right
attribute [go_sem] Zno Znp Zv7 Zv8 Zmp Qyt Qi5 List.isEmpty_cons List.isEmpty_map
attribute [go_sem] Z3e Z3f Z3g Z3h Z3i Z3j Z3k Z3l Option.getD_some Option.getD_none
section
variable {vs vs':List (Nat×PV)} {bs bs':List (Nat×Box)} {o:List (List PV)} {y:Yl}
theorem Zwj (t b esz:Nat) (ety:TypeId) (hbL:Nat.blt b LENT=true) (ht:lkp vs t=some .nilS) (hb:lkp bs b=none) (hz:0<esz):
  Le (St.ofG vs bs o y) (St.ofG ((t,.bs b esz 0 0)::vs) ((b,{els:=[],esz:=esz,ety:=ety,fro:=0,live:=true,arr:=true})::bs) o y):=Z0j hbL ht hb hz
theorem Qnw (t b esz:Nat) (ety:TypeId) (hbL:Nat.blt b LENT=true) (ht:lkp vs t=some .nilS) (hb:lkp bs b=none) (hz:0<esz) (θ:List (Nat×Nat)) (hθ:Qh4 θ bs'=true)
  (hv:Qac θ ((t,.bs b esz 0 0)::vs) vs') (hbx:Qaz θ ((b,{els:=[],esz:=esz,ety:=ety,fro:=0,live:=true,arr:=true})::bs) bs'):Le (St.ofG vs bs o y) (St.ofG vs' bs' o y):=
 (Zwj t b esz ety hbL ht hb hz).trans (Qaj hθ hv hbx)
end
end Go.Vl
