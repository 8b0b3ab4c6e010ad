/-
  What an operation does to values.
-/
import Derived.Test.YtkajnimlfehmeaaVB3
set_option linter.unusedSimpArgs false
set_option linter.unusedVariables false
namespace Go.Vl

inductive Eff where
  | new (b : Nat) (B : Box)
  | wr (b i : Nat) (e : PV)
  | fro (b n : Nat)
  | kill (b : Nat)

def Eff.id : Eff → Nat
  | .new b _ | .wr b _ _ | .fro b _ | .kill b => b
def Eff.hard : Eff → Bool
  | .fro _ _ => false
  | _ => true

def Eff.on (e : Eff) (st : St) : St :=
  match e with
  | .new b B => st.setBox b B
  | .wr b i v => match st.box b with
    | some B => st.setBox b { B with els := B.els.set i v }
    | none => st
  | .fro b n => match st.box b with
    | some B => st.setBox b { B with fro := max B.fro n, live := B.live && true }
    | none => st
  | .kill b => match st.box b with
    | some B => st.setBox b { B with fro := max B.fro B.els.length, live := B.live && false }
    | none => st

def effsOn (es : List Eff) (st : St) : St := es.foldl (fun s e => e.on s) st

inductive Out where
  | done (v : PV) (effs : List Eff)
  | call (f : FuncId) (args : List PV) (effs : List Eff)

/-- What is read of a box without regard to how much of it is held. -/
structure SB where
  els : List PV
  esz : Nat
  ety : TypeId
  arr : Bool
def Box.soft (B : Box) : SB := ⟨B.els, B.esz, B.ety, B.arr⟩

abbrev Bx := Nat → Option Box
abbrev Acc := List (Nat × Bool)
abbrev M (α : Type) := Bx → Option (α × Acc)

def M.pure {α : Type} (a : α) : M α := fun _ => some (a, [])
def M.fail {α : Type} : M α := fun _ => none
def M.bind {α β : Type} (m : M α) (f : α → M β) : M β := fun bx =>
  match m bx with
  | none => none
  | some (a, l) => match f a bx with
    | none => none
    | some (c, l') => some (c, l ++ l')
def M.soft (b : Nat) : M SB := fun bx => match bx b with
  | some B => some (B.soft, [(b, false)])
  | none => none
def M.hard (b : Nat) : M (Option Box) := fun bx => some (bx b, [(b, true)])
def M.ofOpt {α : Type} (x : Option α) : M α := fun _ => x.map fun a => (a, [])
def M.ok (c : Bool) : M Unit := fun _ => if c then some ((), []) else none

/-! ### types -/
def tyAgg (P : Program) (t : TypeId) : Bool := match P.underlying t with
  | some (.struct _) | some (.array _ _) => true
  | _ => false
def tyOk (P : Program) (t : TypeId) : Bool := (P.underlying t).isSome && (P.info? t).isSome
def tyElem (P : Program) (t : TypeId) : Option TypeId := match P.underlying t with
  | some (.slice e) => some e
  | _ => none
def tyArr (P : Program) (t : TypeId) : Option (Nat × TypeId) := match P.underlying t with
  | some (.array n e) => some (n, e)
  | _ => none
/-- A field's place in cells, its type and its size. -/
def tyField (P : Program) (t : TypeId) (f : Nat) : Option (Nat × TypeId × Nat) := match P.underlying t with
  | some (.struct fs) => match fs[f]? with
    | some x => match P.info? x.type with
      | some i => if i.size = 0 then none else some (x.offset, x.type, i.size)
      | none => none
    | none => none
  | _ => none
def tyInfo (P : Program) (t : TypeId) : Option (Nat × Nat) := (P.info? t).map fun i => (i.size, i.bytes)

/-! ### constants -/
def constCell : Value → Option PV
  | .bool b => some (.bool b)
  | .int k n => some (.int k n)
  | .string s => some (.str s)
  | .slice none 0 0 => some .nilS
  | .nilFunc => some .nilF
  | .func (.func f) a b => if a.size = 0 ∧ b.size = 0 then some (.fn f [] []) else none
  | _ => none
def constCells : List Value → Option (List PV)
  | [] => some []
  | v :: vs => match constCell v, constCells vs with
    | some x, some xs => some (x :: xs)
    | _, _ => none
def constPV : Value → Option PV
  | .agg cs => (constCells cs.toList).map .agg
  | .tuple cs => if cs.size = 0 then some (.tup []) else none
  | v => constCell v
def zeroPV (P : Program) (t : TypeId) : Option PV := match P.info? t with
  | some i => match i.zero with
    | some z => constPV z
    | none => none
  | none => none

/-! ### values that go out of the function: they hold no box -/
def esc0 : PV → M (PV × List Eff)
  | .bs b esz off len => .bind (.soft b) fun B => .bind (.ok (B.arr && B.esz == esz && off + len ≤ B.els.length)) fun _ => .pure (.slc ((B.els.drop off).take len), [.fro b (off + len)])
  | .nilS => .pure (.slc [], [])
  | .fn f [] [] => .pure (.fn f [] [], [])
  | .fn _ _ _ | .bp _ _ _ _ | .undef | .tup _ | .agg _ => .fail
  | v => .pure (v, [])
def escL : List PV → M (List PV × List Eff)
  | [] => .pure ([], [])
  | v :: vs => .bind (esc0 v) fun x => .bind (escL vs) fun y => .pure (x.1 :: y.1, x.2 ++ y.2)
/-- a value that a function literal holds: a pointer to a variable, too -/
def escC : PV → M (PV × List Eff)
  | .bp b esz i off => .bind (.soft b) fun B => .bind (.ok (B.esz == esz)) fun _ => .bind (.ofOpt B.els[i]?) fun e => .bind (escL (e.cells.drop off)) fun y => .pure (.rp y.1, .fro b (i + 1) :: y.2)
  | v => esc0 v
def escCL : List PV → M (List PV × List Eff)
  | [] => .pure ([], [])
  | v :: vs => .bind (escC v) fun x => .bind (escCL vs) fun y => .pure (x.1 :: y.1, x.2 ++ y.2)
def esc1 : PV → M (PV × List Eff)
  | .agg cs => .bind (escL cs) fun y => .pure (.agg y.1, y.2)
  | .fn f a c => .bind (escCL a) fun x => .bind (escCL c) fun y => .pure (.fn f x.1 y.1, x.2 ++ y.2)
  | v => escC v
def esc1L : List PV → M (List PV × List Eff)
  | [] => .pure ([], [])
  | v :: vs => .bind (esc1 v) fun x => .bind (esc1L vs) fun y => .pure (x.1 :: y.1, x.2 ++ y.2)

/-! ### the operations -/
def partPV (P : Program) (t : TypeId) (cs : List PV) (off : Nat) : Option PV :=
  if tyOk P t then
    if tyAgg P t then (if off + P.cellsOf t ≤ cs.length then some (.agg ((cs.drop off).take (P.cellsOf t))) else none)
    else cs[off]?
  else none

def fillPV (place : Nat → Option (Nat × Nat)) (cells : List PV) : List (Nat × PV) → Option (List PV)
  | [] => some cells
  | (i, v) :: rest => match place i with
    | none => none
    | some (off, size) => if v.cells.length = size ∧ off + size ≤ cells.length ∧ v.cells.all PV.okCell = true then fillPV place (cells.take off ++ v.cells ++ cells.drop (off + size)) rest else none

def placePV (P : Program) (t : TypeId) (i : Nat) : Option (Nat × Nat) := match P.underlying t with
  | some (.struct fs) => match fs[i]? with
    | some f => match P.info? f.type with
      | some j => some (f.offset, j.size)
      | none => none
    | none => none
  | some (.array _ e) => match P.info? e with
    | some j => some (i * j.size, j.size)
    | none => none
  | _ => none
def buildable (P : Program) (t : TypeId) : Bool := match P.underlying t with
  | some (.struct fs) => fs.all fun f => (P.info? f.type).isSome
  | some (.array _ e) => (P.info? e).isSome
  | _ => false

def okCells (vs : List PV) : Bool := vs.all PV.okCell

def cmpInt (op : BinOp) (x y : Int) : Option Bool :=
  match op with
  | .eql => some (x == y)
  | .neq => some (x != y)
  | .lss => some (decide (x < y))
  | .leq => some (decide (x ≤ y))
  | .gtr => some (decide (x > y))
  | .geq => some (decide (x ≥ y))
  | _ => none

def binInt (op : BinOp) (k : IntKind) (x y : Int) : Option PV :=
  match op with
  | .add => some (.int k (k.wrap (x + y)))
  | .sub => some (.int k (k.wrap (x - y)))
  | .mul => some (.int k (k.wrap (x * y)))
  | .quo => if y = 0 then none else some (.int k (k.wrap (x.tdiv y)))
  | .rem => if y = 0 then none else some (.int k (x.tmod y))
  | .and => some (.int k (k.wrap (BitVec.ofInt k.bits x &&& BitVec.ofInt k.bits y).toNat))
  | .or => some (.int k (k.wrap (BitVec.ofInt k.bits x ||| BitVec.ofInt k.bits y).toNat))
  | .xor => some (.int k (k.wrap (BitVec.ofInt k.bits x ^^^ BitVec.ofInt k.bits y).toNat))
  | .andNot => some (.int k (k.wrap (BitVec.ofInt k.bits x &&& ~~~BitVec.ofInt k.bits y).toNat))
  | .shl | .shr => none
  | _ => (cmpInt op x y).map .bool

def shiftInt (op : BinOp) (k : IntKind) (x y : Int) : Option PV :=
  if y < 0 then none else
  match op with
  | .shl => some (.int k (k.wrap (x * 2 ^ (min y.toNat k.bits))))
  | .shr => some (.int k (x.fdiv (2 ^ (min y.toNat k.bits))))
  | _ => none

def binStr (op : BinOp) (x y : ByteArray) : Option PV :=
  match op with
  | .add => if ((x.size + y.size : Nat) : Int) > IntKind.i64.max then none else some (.str (x ++ y))
  | .eql => some (.bool (x.toList == y.toList))
  | .neq => some (.bool !(x.toList == y.toList))
  | .lss => some (.bool (Op.bytesLess x.toList y.toList))
  | .leq => some (.bool (Op.bytesLess x.toList y.toList || x.toList == y.toList))
  | .gtr => some (.bool !(Op.bytesLess x.toList y.toList || x.toList == y.toList))
  | .geq => some (.bool !(Op.bytesLess x.toList y.toList))
  | _ => none

def binPV (op : BinOp) (t : TypeId) (P : Program) (x y : PV) : Option PV :=
  match x, y with
  | .int k a, .int k' b => match op with
    | .shl | .shr => shiftInt op k a b
    | _ => if k = k' then binInt op k a b else none
  | .str a, .str b => binStr op a b
  | .bool a, .bool b => match P.underlying t, op with
    | some .bool, .eql => some (.bool (a == b))
    | some .bool, .neq => some (.bool !(a == b))
    | _, _ => none
  | _, _ => none

def unPV (op : UnOp) (x : PV) : Option PV :=
  match op, x with
  | .neg, .int k n => some (.int k (k.wrap (0 - n)))
  | .xor, .int k n => some (.int k (k.wrap (BitVec.ofInt k.bits (if k.signed then -1 else k.max) ^^^ BitVec.ofInt k.bits n).toNat))
  | .not, .bool b => some (.bool !b)
  | _, _ => none

def convPV (P : Program) (s d : TypeId) (x : PV) : Option PV :=
  match P.underlying s, P.underlying d, x with
  | some (.int _), some (.int k), .int _ n => some (.int k (k.wrap n))
  | _, _, _ => none

def lenPV (P : Program) (t : TypeId) : PV → Option PV
  | .str s => match P.underlying t with | some .string => some (.int .i64 s.size) | _ => none
  | .nilS => match P.underlying t with | some (.slice _) => some (.int .i64 0) | _ => none
  | .slc es => match P.underlying t with | some (.slice _) => some (.int .i64 es.length) | _ => none
  | .bs _ _ _ len => match P.underlying t with | some (.slice _) => some (.int .i64 len) | _ => none
  | _ => match P.underlying t with | some (.array n _) => some (.int .i64 n) | _ => none

/-- The bounds of a slice expression without a third one. -/
def boundsPV (len : Nat) (lo hi : Option PV) : Option (Nat × Nat) :=
  match (match hi with | some (.int _ h) => some h | none => some (len : Int) | _ => none), (match lo with | some (.int _ l) => some l | none => some 0 | _ => none) with
  | some h, some l => if 0 ≤ l ∧ l ≤ h ∧ h ≤ len then some (l.toNat, h.toNat) else none
  | _, _ => none

def slicePV (P : Program) (t : TypeId) (x : PV) (lo hi : Option PV) : M Out :=
  match x with
  | .str s => .bind (.ok (match P.underlying t with | some .string => true | _ => false)) fun _ => .bind (.ofOpt (boundsPV s.size lo hi)) fun r => .pure (.done (.str (s.extract r.1 r.2)) [])
  | .nilS => .bind (.ofOpt (tyInfo P ((tyElem P t).getD 0))) fun _ => .bind (.ok (tyElem P t).isSome) fun _ => .bind (.ofOpt (boundsPV 0 lo hi)) fun _ => .pure (.done .nilS [])
  | .slc es => .bind (.ofOpt (tyElem P t)) fun e => .bind (.ofOpt (tyInfo P e)) fun q => .bind (.ofOpt (boundsPV es.length lo hi)) fun r =>
      .bind (.ok (es.all fun x => x.cells.length == q.1)) fun _ => .pure (.done (.slc ((es.take r.2).drop r.1)) [])
  | .bs b esz off len => .bind (.ofOpt (tyElem P t)) fun e => .bind (.ofOpt (tyInfo P e)) fun q => .bind (.ok (q.1 == esz)) fun _ => .bind (.ofOpt (boundsPV len lo hi)) fun r =>
      match lo with
      | none => .pure (.done (.bs b esz off r.2) [])
      | some _ => .bind (.soft b) fun B => .bind (.ok (B.arr && B.esz == esz && off + len ≤ B.els.length)) fun _ => .pure (.done (.slc ((((B.els.drop off).take len).take r.2).drop r.1)) [.fro b (off + len)])
  | _ => .fail

def minMax (mx : Bool) : PV → List PV → Option PV
  | x, [] => some x
  | .int k a, .int k' b :: rest => if k = k' then minMax mx (.int k (if mx then (if b > a then b else a) else (if b < a then b else a))) rest else none
  | _, _ => none

def appendPV (P : Program) (id : Nat) (T T2 : TypeId) (s x : PV) : M Out :=
  .bind (.ok (T == T2)) fun _ => .bind (.ofOpt (tyElem P T)) fun E => .bind (.ofOpt (tyInfo P E)) fun q => .bind (.ofOpt (zeroPV P E)) fun z => .bind (.ok (z.cells.length == q.1 && 0 < q.1)) fun _ =>
  .bind (.hard id) fun n => .bind (.ok n.isNone) fun _ => .bind (esc0 x) fun y => match y.1 with
  | .slc xs => .bind (.ok (xs.all fun e => e.cells.length == q.1 && okCells e.cells)) fun _ => match s with
    | .nilS => .bind (.ok (xs.length * q.2 ≤ 140737488355328 && xs.length ≤ maxLen)) fun _ =>
        .pure (.done (.bs id q.1 0 xs.length) (y.2 ++ [.new id { els := xs, esz := q.1, ety := E, fro := 0, live := true, arr := true }]))
    | .bs b esz off len => .bind (.hard b) fun Bo => .bind (.ofOpt Bo) fun B =>
        .bind (.ok ((y.2.all fun e => e.id != b) && B.live && B.arr && off == 0 && len == B.els.length && esz == q.1 && B.esz == q.1 && B.ety == E && okCells (B.els.flatMap PV.cells) && (B.els.length + xs.length) * q.2 ≤ 140737488355328 && B.els.length + xs.length ≤ maxLen)) fun _ =>
        .pure (.done (.bs id q.1 0 (B.els.length + xs.length)) (y.2 ++ [.kill b, .new id { els := B.els ++ xs, esz := q.1, ety := E, fro := B.els.length, live := true, arr := true }]))
    | _ => .fail
  | _ => .fail

def newVar (id : Nat) (T : TypeId) (v : PV) : M Out :=
  .bind (.hard id) fun n => .bind (.ok (n.isNone && okCells v.cells && 0 < v.cells.length)) fun _ =>
    .pure (.done (.bp id v.cells.length 0 0) [.new id { els := [v], esz := v.cells.length, ety := T, fro := 0, live := true, arr := false }])

def opVal (P : Program) (id : Nat) (o : Op) (vs : List PV) : M Out :=
  match o, vs with
  | .move _, [x] => .pure (.done x [])
  | .assign _, [x] => .pure (.done x [])
  | .nilCheck _, [x] => match x with
    | .bp _ _ _ _ | .rp _ | .fn _ _ _ => .pure (.done x [])
    | _ => .fail
  | .pick _ _ _, [.bool c, a, b] => .pure (.done (if c then a else b) [])
  | .alloc T, [] => .bind (.ofOpt (zeroPV P T)) fun z => newVar id T z
  | .box T _, [x] => newVar id T x
  | .build T parts, vs => .bind (.ok (buildable P T)) fun _ => .bind (.ofOpt (zeroPV P T)) fun z => .bind (.ofOpt (fillPV (placePV P T) z.cells ((parts.toList.map (·.1)).zip vs))) fun cs => .pure (.done (.agg cs) [])
  | .buildSlice T n parts, vs => .bind (.ok (parts.toList.map (·.1) == List.range n && 0 < n && n ≤ 1000)) fun _ => .bind (.ofOpt (tyElem P T)) fun E => .bind (.ofOpt (tyInfo P E)) fun q =>
      .bind (.ofOpt (zeroPV P E)) fun z => .bind (.hard id) fun b => .bind (esc1L vs) fun ys =>
      .bind (.ok (b.isNone && z.cells.length == q.1 && ys.1.length == n && (ys.1.all fun e => e.cells.length == q.1 && okCells e.cells) && 0 < q.1 && q.1 ≤ 1000)) fun _ =>
      .pure (.done (.bs id q.1 0 n) (ys.2 ++ [.new id { els := ys.1, esz := q.1, ety := E, fro := 0, live := true, arr := true }]))
  | .load T _, [.bp b esz i off] => .bind (.soft b) fun B => .bind (.ok (B.esz == esz)) fun _ => .bind (.ofOpt B.els[i]?) fun e => .bind (.ofOpt (partPV P T e.cells off)) fun v => .pure (.done v [])
  | .load T _, [.rp cs] => .bind (.ofOpt (partPV P T cs 0)) fun v => .pure (.done v [])
  | .store T _ _, [.bp b esz i off, v] => .bind (.hard b) fun Bo => .bind (.ofOpt Bo) fun B => .bind (.ofOpt B.els[i]?) fun e =>
      .bind (.ok (B.esz == esz && B.live && B.fro ≤ i && (P.info? T).isSome && v.cells.length == P.cellsOf T && okCells v.cells && off + v.cells.length ≤ e.cells.length)) fun _ =>
      if B.arr then .bind (escL v.cells) fun y => .bind (.ok (okCells y.1 && y.2.all fun e => e.id != b)) fun _ => .pure (.done (.tup []) (y.2 ++ [.wr b i (e.putCells off y.1)]))
      else .pure (.done (.tup []) [.wr b i (e.putCells off v.cells)])
  | .binOp op t _ _ _, [x, y] => .bind (.ofOpt (binPV op t P x y)) fun v => .pure (.done v [])
  | .unOp op _ _, [x] => .bind (.ofOpt (unPV op x)) fun v => .pure (.done v [])
  | .convert s d _, [x] => .bind (.ofOpt (convPV P s d x)) fun v => .pure (.done v [])
  | .makeFunc (.func f) first cap, vs => .pure (.done (.fn f (vs.take first.size) (vs.drop first.size)) [])
  | .makeSlice T _ _, [.int _ l, .int _ c] => .bind (.ofOpt (tyElem P T)) fun E => .bind (.ofOpt (tyInfo P E)) fun q => .bind (.ofOpt (zeroPV P E)) fun z => .bind (.hard id) fun b =>
      .bind (.ok (b.isNone && z.cells.length == q.1 && okCells z.cells && 0 < q.1 && decide (0 ≤ l) && decide (l ≤ c) && decide ((q.2 : Int) * c ≤ 281474976710656) && decide (c ≤ 9223372036854775807))) fun _ =>
      .pure (.done (.bs id q.1 0 l.toNat) [.new id { els := List.replicate l.toNat z, esz := q.1, ety := E, fro := 0, live := true, arr := true }])
  | .slice T _ none none none, [x] => slicePV P T x none none
  | .slice T _ (some _) none none, [x, l] => slicePV P T x (some l) none
  | .slice T _ none (some _) none, [x, h] => slicePV P T x none (some h)
  | .slice T _ (some _) (some _) none, [x, l, h] => slicePV P T x (some l) (some h)
  | .fieldAddr T _ f, [.bp b esz i off] => .bind (.ofOpt (tyField P T f)) fun q => .pure (.done (.bp b esz i (off + q.1)) [])
  | .fieldAddr T _ f, [.rp cs] => .bind (.ofOpt (tyField P T f)) fun q => .pure (.done (.rp (cs.drop q.1)) [])
  | .field T _ f, [.agg cs] => .bind (.ofOpt (tyField P T f)) fun q => .bind (.ofOpt (partPV P q.2.1 cs q.1)) fun v => .pure (.done v [])
  | .indexAddr T _ _, [x, .int _ i] => match x with
    | .bp b esz k off => .bind (.ofOpt (tyArr P T)) fun q => .bind (.ofOpt (tyInfo P q.2)) fun s => .bind (.ok (decide (0 ≤ i) && decide (i < q.1) && decide (1 < q.1))) fun _ => .pure (.done (.bp b esz k (off + i.toNat * s.1)) [])
    | .rp cs => .bind (.ofOpt (tyArr P T)) fun q => .bind (.ofOpt (tyInfo P q.2)) fun s => .bind (.ok (decide (0 ≤ i) && decide (i < q.1) && decide (1 < q.1))) fun _ => .pure (.done (.rp (cs.drop (i.toNat * s.1))) [])
    | .bs b esz off len => .bind (.ofOpt (tyElem P T)) fun E => .bind (.ofOpt (tyInfo P E)) fun s => .bind (.ok (s.1 == esz && decide (0 ≤ i) && decide (i < len))) fun _ => .pure (.done (.bp b esz (off + i.toNat) 0) [])
    | .slc es => .bind (.ofOpt (tyElem P T)) fun E => .bind (.ofOpt (tyInfo P E)) fun s => .bind (.ok (decide (0 ≤ i))) fun _ => .bind (.ofOpt es[i.toNat]?) fun e => .bind (.ok (e.cells.length == s.1)) fun _ => .pure (.done (.rp e.cells) [])
    | _ => .fail
  | .index T _ _, [x, .int _ i] => match x with
    | .agg cs => .bind (.ofOpt (tyArr P T)) fun q => .bind (.ofOpt (tyInfo P q.2)) fun s => .bind (.ok (decide (0 ≤ i) && decide (i < q.1))) fun _ => .bind (.ofOpt (partPV P q.2 cs (i.toNat * s.1))) fun v => .pure (.done v [])
    | .str s => .bind (.ok (match P.underlying T with | some .string => decide (0 ≤ i) | _ => false)) fun _ => .bind (.ofOpt s[i.toNat]?) fun c => .pure (.done (.int .u8 c.toNat) [])
    | _ => .fail
  | .extract _ i, [.tup vs] => .bind (.ofOpt vs[i]?) fun v => .pure (.done v [])
  | .call ⟨.builtin .len, _, ts⟩, [x] => .bind (.ofOpt ts[0]?) fun t => .bind (.ofOpt (lenPV P t x)) fun v => .pure (.done v [])
  | .call ⟨.builtin .append, _, ts⟩, [s, x] => .bind (.ofOpt ts[0]?) fun t => .bind (.ofOpt ts[1]?) fun t2 => .bind (.ok (ts.size == 2)) fun _ => appendPV P id t t2 s x
  | .call ⟨.builtin .max, _, _⟩, x :: xs => .bind (.ofOpt (minMax true x xs)) fun v => .pure (.done v [])
  | .call ⟨.builtin .min, _, _⟩, x :: xs => .bind (.ofOpt (minMax false x xs)) fun v => .pure (.done v [])
  | .call ⟨.value _, _, _⟩, .fn f first cap :: args => .bind (escCL first) fun x => .bind (esc1L args) fun y => .bind (escCL cap) fun z => .pure (.call f (x.1 ++ y.1 ++ z.1) (x.2 ++ y.2 ++ z.2))
  | _, _ => .fail

def St.ev (st : St) : Operand → Option PV
  | .tmp t => st.var t
  | .const v => constPV v
  | .func f => some (.fn f [] [])
  | .global _ => none

def St.evs (st : St) : List Operand → Option (List PV)
  | [] => some []
  | x :: xs => match st.ev x with
    | none => none
    | some v => match st.evs xs with
      | none => none
      | some vs => some (v :: vs)

end Go.Vl
