/-
  What an operation does to values.
-/
import Derived.Test.YtkajnimlfehmeaaUB3
import Derived.Test.YtkajnimlfehmeaaUEq
set_option linter.unusedSimpArgs false
set_option linter.unusedVariables false
namespace Go.Vl

inductive Eff where
  | new (b : Nat) (B : Box)
  | wr (b i : Nat) (e : PV)
  | fro (b n : Nat)
  | kill (b : Nat)
  | yld (args : List PV)

/-- The name under which what has been handed out is met. -/
abbrev YID : Nat := 999999

def Eff.id : Eff → Nat
  | .new b _ | .wr b _ _ | .fro b _ | .kill b => b
  | .yld _ => YID
def Eff.hard : Eff → Bool
  | .fro _ _ => false
  | _ => true

def Eff.on (e : Eff) (st : St) : St :=
  match e with
  | .new b B => st.setBox b B
  | .wr b i v => match st.box b with
    | some B => st.setBox b { B with els := B.els.set i v }
    | none => st
  | .fro b n => match st.box b with
    | some B => st.setBox b { B with fro := max B.fro n, live := B.live && true }
    | none => st
  | .kill b => match st.box b with
    | some B => st.setBox b { B with fro := max B.fro B.els.length, live := B.live && false }
    | none => st
  | .yld args => { st with out := st.out ++ [args] }

def effsOn (es : List Eff) (st : St) : St := es.foldl (fun s e => e.on s) st

inductive Out where
  | done (v : PV) (effs : List Eff)
  | call (f : FuncId) (args : List PV) (effs : List Eff)
  | callB (f : FuncId) (args : List PV) (bxs : List (Nat × Box)) (effs : List Eff) (θ ν : List (Nat × Nat))
  | yield (n stop : Nat) (args : List PV) (effs : List Eff)

/-- What is read of a box without regard to how much of it is held. -/
structure SB where
  els : List PV
  esz : Nat
  ety : TypeId
  arr : Bool
def Box.soft (B : Box) : SB := ⟨B.els, B.esz, B.ety, B.arr⟩

abbrev Bx := Nat → Option Box
abbrev Acc := List (Nat × Bool)
abbrev M (α : Type) := Bx → Option (α × Acc)

def M.pure {α : Type} (a : α) : M α := fun _ => some (a, [])
def M.fail {α : Type} : M α := fun _ => none
def M.bind {α β : Type} (m : M α) (f : α → M β) : M β := fun bx =>
  match m bx with
  | none => none
  | some (a, l) => match f a bx with
    | none => none
    | some (c, l') => some (c, l ++ l')
def M.soft (b : Nat) : M SB := fun bx => match bx b with
  | some B => some (B.soft, [(b, false)])
  | none => none
def M.hard (b : Nat) : M (Option Box) := fun bx => some (bx b, [(b, true)])
def M.ofOpt {α : Type} (x : Option α) : M α := fun _ => x.map fun a => (a, [])
def M.ok (c : Bool) : M Unit := fun _ => if c then some ((), []) else none

/-! ### types -/
def tyAgg (P : Program) (t : TypeId) : Bool := match P.underlying t with
  | some (.struct _) | some (.array _ _) => true
  | _ => false
def tyOk (P : Program) (t : TypeId) : Bool := (P.underlying t).isSome && (P.info? t).isSome
def tyElem (P : Program) (t : TypeId) : Option TypeId := match P.underlying t with
  | some (.slice e) => some e
  | _ => none
def tyArr (P : Program) (t : TypeId) : Option (Nat × TypeId) := match P.underlying t with
  | some (.array n e) => some (n, e)
  | _ => none
/-- A field's place in cells, its type and its size. -/
def tyField (P : Program) (t : TypeId) (f : Nat) : Option (Nat × TypeId × Nat) := match P.underlying t with
  | some (.struct fs) => match fs[f]? with
    | some x => match P.info? x.type with
      | some i => if i.size = 0 then none else some (x.offset, x.type, i.size)
      | none => none
    | none => none
  | _ => none
def tyInfo (P : Program) (t : TypeId) : Option (Nat × Nat) := (P.info? t).map fun i => (i.size, i.bytes)

/-! ### constants -/
def constCell : Value → Option PV
  | .bool b => some (.bool b)
  | .int k n => some (.int k n)
  | .string s => some (.str s)
  | .slice none 0 0 => some .nilS
  | .nilFunc => some .nilF
  | .func (.func f) a b => if a.size = 0 ∧ b.size = 0 then some (.fn f [] []) else none
  | _ => none
def constCells : List Value → Option (List PV)
  | [] => some []
  | v :: vs => match constCell v, constCells vs with
    | some x, some xs => some (x :: xs)
    | _, _ => none
def constPV : Value → Option PV
  | .agg cs => (constCells cs.toList).map .agg
  | .tuple cs => if cs.size = 0 then some (.tup []) else none
  | v => constCell v
def zeroPV (P : Program) (t : TypeId) : Option PV := match P.info? t with
  | some i => match i.zero with
    | some z => constPV z
    | none => none
  | none => none

/-! ### values that go out of the function: they hold no box -/
def esc0 : PV → M (PV × List Eff)
  | .bs b esz off len => .bind (.soft b) fun B => .bind (.ok (B.arr && B.esz == esz && off + len ≤ B.els.length)) fun _ => .pure (.slc ((B.els.drop off).take len), [.fro b (off + len)])
  | .nilS => .pure (.slc [], [])
  | .fn f [] [] => .pure (.fn f [] [], [])
  | .fn _ _ _ | .bp _ _ _ _ | .undef | .tup _ | .agg _ => .fail
  | v => .pure (v, [])
def escL : List PV → M (List PV × List Eff)
  | [] => .pure ([], [])
  | v :: vs => .bind (esc0 v) fun x => .bind (escL vs) fun y => .pure (x.1 :: y.1, x.2 ++ y.2)
/-- a value that a function literal holds: a pointer to a variable, too -/
def escC : PV → M (PV × List Eff)
  | .bp b esz i off => .bind (.soft b) fun B => .bind (.ok (B.esz == esz)) fun _ => .bind (.ofOpt B.els[i]?) fun e => .bind (escL (e.cells.drop off)) fun y => .pure (.rp y.1, .fro b (i + 1) :: y.2)
  | v => esc0 v
def escCL : List PV → M (List PV × List Eff)
  | [] => .pure ([], [])
  | v :: vs => .bind (escC v) fun x => .bind (escCL vs) fun y => .pure (x.1 :: y.1, x.2 ++ y.2)
def esc1 : PV → M (PV × List Eff)
  | .agg cs => .bind (escL cs) fun y => .pure (.agg y.1, y.2)
  | .fn f a c => .bind (escCL a) fun x => .bind (escCL c) fun y => .pure (.fn f x.1 y.1, x.2 ++ y.2)
  | v => escC v
def esc1L : List PV → M (List PV × List Eff)
  | [] => .pure ([], [])
  | v :: vs => .bind (esc1 v) fun x => .bind (esc1L vs) fun y => .pure (x.1 :: y.1, x.2 ++ y.2)

/-! ### lists of names -/
def lkp {α : Type} : List (Nat × α) → Nat → Option α
  | [], _ => none
  | (k, v) :: l, j => if j = k then some v else lkp l j
/-- the name that is called so -/
def rlk : List (Nat × Nat) → Nat → Option Nat
  | [], _ => none
  | (k, v) :: l, j => if j = v then some k else rlk l j
def okMap (κ : List (Nat × Nat)) : Bool := κ.all fun p => lkp κ p.1 == some p.2 && rlk κ p.2 == some p.1

def ren0 (θ : List (Nat × Nat)) : PV → Option PV
  | .bp b esz i off => match lkp θ b with
    | some b' => some (.bp b' esz i off)
    | none => none
  | .bs b esz off len => match lkp θ b with
    | some b' => some (.bs b' esz off len)
    | none => none
  | .fn f [] [] => some (.fn f [] [])
  | .fn _ _ _ | .agg _ | .tup _ => none
  | v => some v
def ren0L (θ : List (Nat × Nat)) : List PV → Option (List PV)
  | [] => some []
  | v :: vs => match ren0 θ v with
    | none => none
    | some x => match ren0L θ vs with
      | none => none
      | some xs => some (x :: xs)
def ren1 (θ : List (Nat × Nat)) : PV → Option PV
  | .agg cs => match ren0L θ cs with
    | some xs => some (.agg xs)
    | none => none
  | .tup [] => some (.tup [])
  | .fn f a c => match ren0L θ a with
    | none => none
    | some x => match ren0L θ c with
      | none => none
      | some y => some (.fn f x y)
  | v => ren0 θ v
def ren1L (θ : List (Nat × Nat)) : List PV → Option (List PV)
  | [] => some []
  | v :: vs => match ren1 θ v with
    | none => none
    | some x => match ren1L θ vs with
      | none => none
      | some xs => some (x :: xs)
def ren2 (θ : List (Nat × Nat)) : PV → Option PV
  | .tup vs => match ren1L θ vs with
    | some xs => some (.tup xs)
    | none => none
  | v => ren1 θ v

/-! ### boxes that are lent to a call -/
/-- For some operations: the boxes that a call is lent (its name for it, our name for it), and the new ones that it hands back (likewise). -/
abbrev Tab := List (Nat × List (Nat × Nat) × List (Nat × Nat))

def lend1 (θ : List (Nat × Nat)) : PV → M (PV × List Eff)
  | .bs b esz off len => match rlk θ b with
    | some b' => .pure (.bs b' esz off len, [])
    | none => esc1 (.bs b esz off len)
  | .bp b esz i off => match rlk θ b with
    | some b' => .pure (.bp b' esz i off, [])
    | none => esc1 (.bp b esz i off)
  | v => esc1 v
def lendL (θ : List (Nat × Nat)) : List PV → M (List PV × List Eff)
  | [] => .pure ([], [])
  | v :: vs => .bind (lend1 θ v) fun x => .bind (lendL θ vs) fun y => .pure (x.1 :: y.1, x.2 ++ y.2)
/-- a value that holds no box -/
def extCell : PV → Bool
  | .bool _ | .int _ _ | .str _ | .nilS | .nilF | .slc _ | .rp _ => true
  | .fn _ [] [] => true
  | _ => false
def Box.ext (B : Box) : Bool := B.arr || (B.els.flatMap PV.cells).all extCell
def lentBoxes : List (Nat × Nat) → M (List (Nat × Box))
  | [] => .pure []
  | (b', b) :: θ => .bind (.hard b) fun Bo => .bind (.ofOpt Bo) fun B => .bind (.ok (B.live && B.ext && Nat.ble LENT b')) fun _ => .bind (lentBoxes θ) fun bs => .pure ((b', B) :: bs)
def freeIds : List (Nat × Nat) → M Unit
  | [] => .pure ()
  | (_, n) :: ν => .bind (.hard n) fun B => .bind (.ok (B.isNone && Nat.blt n LENT)) fun _ => freeIds ν
def lendCall (θ ν : List (Nat × Nat)) (f : FuncId) (args : List PV) : M Out :=
  .bind (lendL θ args) fun y => .bind (lentBoxes θ) fun bxs => .bind (freeIds ν) fun _ =>
    .bind (.ok (okMap (θ ++ ν) && y.2.all fun e => (rlk (θ ++ ν) e.id).isNone && !e.hard)) fun _ => .pure (.callB f y.1 bxs y.2 θ ν)

def flatc : PV → Bool
  | .bool _ | .int _ _ | .str _ | .nilS | .nilF => true
  | _ => false
def flatr0 : PV → Bool
  | .bs _ _ _ _ | .bp _ _ _ _ => true
  | v => flatc v
def flatr1 : PV → Bool
  | .agg cs => cs.all flatr0
  | v => flatr0 v
def flatr : PV → Bool
  | .tup vs => vs.all flatr1
  | v => flatr1 v
/-- what a call hands back holds nothing of what it was called with -/
def flatB (r : PV) (bxs : List (Nat × Box)) : Bool := flatr r && bxs.all fun p => (p.2.els.flatMap PV.cells).all flatc
def landBoxes (κ : List (Nat × Nat)) : List (Nat × Box) → Option (List Eff)
  | [] => some []
  | (b', B) :: bs => match lkp κ b' with
    | none => none
    | some b => if B.ext = true ∧ (lkp bs b').isNone = true then (match landBoxes κ bs with | some es => some (.new b B :: es) | none => none) else none
/-- What a call hands back, under our names. -/
def land (θ ν : List (Nat × Nat)) (bxs : List (Nat × Box)) (r : PV) : Option (PV × List Eff) :=
  if ((θ ++ ν).all fun p => (lkp bxs p.1).isSome) = true then (match ren2 (θ ++ ν) r, landBoxes (θ ++ ν) bxs with
    | some r', some es => some (r', es)
    | _, _ => none) else none

/-! ### the operations -/
def partPV (P : Program) (t : TypeId) (cs : List PV) (off : Nat) : Option PV :=
  if tyOk P t then
    if tyAgg P t then (if off + P.cellsOf t ≤ cs.length then some (.agg ((cs.drop off).take (P.cellsOf t))) else none)
    else cs[off]?
  else none

def fillPV (place : Nat → Option (Nat × Nat)) (cells : List PV) : List (Nat × PV) → Option (List PV)
  | [] => some cells
  | (i, v) :: rest => match place i with
    | none => none
    | some (off, size) => if v.cells.length = size ∧ off + size ≤ cells.length ∧ v.cells.all PV.okCell = true then fillPV place (cells.take off ++ v.cells ++ cells.drop (off + size)) rest else none

def placePV (P : Program) (t : TypeId) (i : Nat) : Option (Nat × Nat) := match P.underlying t with
  | some (.struct fs) => match fs[i]? with
    | some f => match P.info? f.type with
      | some j => some (f.offset, j.size)
      | none => none
    | none => none
  | some (.array _ e) => match P.info? e with
    | some j => some (i * j.size, j.size)
    | none => none
  | _ => none
def buildable (P : Program) (t : TypeId) : Bool := match P.underlying t with
  | some (.struct fs) => fs.all fun f => (P.info? f.type).isSome
  | some (.array _ e) => (P.info? e).isSome
  | _ => false

def okCells (vs : List PV) : Bool := vs.all PV.okCell

def cmpInt (op : BinOp) (x y : Int) : Option Bool :=
  match op with
  | .eql => some (x == y)
  | .neq => some (x != y)
  | .lss => some (decide (x < y))
  | .leq => some (decide (x ≤ y))
  | .gtr => some (decide (x > y))
  | .geq => some (decide (x ≥ y))
  | _ => none

def binInt (op : BinOp) (k : IntKind) (x y : Int) : Option PV :=
  match op with
  | .add => some (.int k (k.wrap (x + y)))
  | .sub => some (.int k (k.wrap (x - y)))
  | .mul => some (.int k (k.wrap (x * y)))
  | .quo => if y = 0 then none else some (.int k (k.wrap (x.tdiv y)))
  | .rem => if y = 0 then none else some (.int k (x.tmod y))
  | .and => some (.int k (k.wrap (BitVec.ofInt k.bits x &&& BitVec.ofInt k.bits y).toNat))
  | .or => some (.int k (k.wrap (BitVec.ofInt k.bits x ||| BitVec.ofInt k.bits y).toNat))
  | .xor => some (.int k (k.wrap (BitVec.ofInt k.bits x ^^^ BitVec.ofInt k.bits y).toNat))
  | .andNot => some (.int k (k.wrap (BitVec.ofInt k.bits x &&& ~~~BitVec.ofInt k.bits y).toNat))
  | .shl | .shr => none
  | _ => (cmpInt op x y).map .bool

def shiftInt (op : BinOp) (k : IntKind) (x y : Int) : Option PV :=
  if y < 0 then none else
  match op with
  | .shl => some (.int k (k.wrap (x * 2 ^ (min y.toNat k.bits))))
  | .shr => some (.int k (x.fdiv (2 ^ (min y.toNat k.bits))))
  | _ => none

def binStr (op : BinOp) (x y : ByteArray) : Option PV :=
  match op with
  | .add => if ((x.size + y.size : Nat) : Int) > IntKind.i64.max then none else some (.str (x ++ y))
  | .eql => some (.bool (x.toList == y.toList))
  | .neq => some (.bool !(x.toList == y.toList))
  | .lss => some (.bool (Op.bytesLess x.toList y.toList))
  | .leq => some (.bool (Op.bytesLess x.toList y.toList || x.toList == y.toList))
  | .gtr => some (.bool !(Op.bytesLess x.toList y.toList || x.toList == y.toList))
  | .geq => some (.bool !(Op.bytesLess x.toList y.toList))
  | _ => none

/-- The kinds of a struct's cells. -/
def eqShapeS (P : Program) (t : TypeId) : Option (List Nat) := if P.eqGuardType P.depth t = true then none else match P.underlying t with
  | some (.struct _) => eqShape P Op.maxDepth t
  | _ => none
def binPV (op : BinOp) (t : TypeId) (P : Program) (x y : PV) : Option PV :=
  match x, y with
  | .int k a, .int k' b => match op with
    | .shl | .shr => shiftInt op k a b
    | _ => if k = k' then binInt op k a b else none
  | .str a, .str b => binStr op a b
  | .bool a, .bool b => match P.underlying t, op with
    | some .bool, .eql => some (.bool (a == b))
    | some .bool, .neq => some (.bool !(a == b))
    | _, _ => none
  | .agg xs, .agg ys => match eqShapeS P t with
    | some sh => match op, eqCells sh xs ys with
      | .eql, some b => some (.bool b)
      | .neq, some b => some (.bool !b)
      | _, _ => none
    | none => none
  | _, _ => none

def unPV (op : UnOp) (x : PV) : Option PV :=
  match op, x with
  | .neg, .int k n => some (.int k (k.wrap (0 - n)))
  | .xor, .int k n => some (.int k (k.wrap (BitVec.ofInt k.bits (if k.signed then -1 else k.max) ^^^ BitVec.ofInt k.bits n).toNat))
  | .not, .bool b => some (.bool !b)
  | _, _ => none

def convPV (P : Program) (s d : TypeId) (x : PV) : Option PV :=
  match P.underlying s, P.underlying d, x with
  | some (.int _), some (.int k), .int _ n => some (.int k (k.wrap n))
  | _, _, _ => none

/-- Bytes as a string. -/
def bytesOf : List PV → Option (List UInt8)
  | [] => some []
  | .int .u8 n :: xs => match bytesOf xs with
    | some bs => some (UInt8.ofNat n.toNat :: bs)
    | none => none
  | _ => none
def isBytes (P : Program) (s d : TypeId) : Bool := match P.underlying d, P.underlying s with
  | some .string, some (.slice e) => match P.underlying e with
    | some (.int .u8) => true
    | _ => false
  | _, _ => false
def convM (P : Program) (s d : TypeId) (x : PV) : M Out := match convPV P s d x with
  | some v => .pure (.done v [])
  | none => .bind (.ok (isBytes P s d)) fun _ => .bind (esc0 x) fun y => match y.1 with
    | .slc xs => .bind (.ofOpt (bytesOf xs)) fun bs => .pure (.done (.str ⟨bs.toArray⟩) [])
    | _ => .fail

def lenPV (P : Program) (t : TypeId) : PV → Option PV
  | .str s => match P.underlying t with | some .string => some (.int .i64 s.size) | _ => none
  | .nilS => match P.underlying t with | some (.slice _) => some (.int .i64 0) | _ => none
  | .slc es => match P.underlying t with | some (.slice _) => some (.int .i64 es.length) | _ => none
  | .bs _ _ _ len => match P.underlying t with | some (.slice _) => some (.int .i64 len) | _ => none
  | _ => match P.underlying t with | some (.array n _) => some (.int .i64 n) | _ => none

/-- The bounds of a slice expression without a third one. -/
def boundsPV (len : Nat) (lo hi : Option PV) : Option (Nat × Nat) :=
  match (match hi with | some (.int _ h) => some h | none => some (len : Int) | _ => none), (match lo with | some (.int _ l) => some l | none => some 0 | _ => none) with
  | some h, some l => if 0 ≤ l ∧ l ≤ h ∧ h ≤ len then some (l.toNat, h.toNat) else none
  | _, _ => none

def slicePV (P : Program) (t : TypeId) (x : PV) (lo hi : Option PV) : M Out :=
  match x with
  | .str s => .bind (.ok (match P.underlying t with | some .string => true | _ => false)) fun _ => .bind (.ofOpt (boundsPV s.size lo hi)) fun r => .pure (.done (.str (s.extract r.1 r.2)) [])
  | .nilS => .bind (.ofOpt (tyInfo P ((tyElem P t).getD 0))) fun _ => .bind (.ok (tyElem P t).isSome) fun _ => .bind (.ofOpt (boundsPV 0 lo hi)) fun _ => .pure (.done .nilS [])
  | .slc es => .bind (.ofOpt (tyElem P t)) fun e => .bind (.ofOpt (tyInfo P e)) fun q => .bind (.ofOpt (boundsPV es.length lo hi)) fun r =>
      .bind (.ok (es.all fun x => x.cells.length == q.1)) fun _ => .pure (.done (.slc ((es.take r.2).drop r.1)) [])
  | .bs b esz off len => .bind (.ofOpt (tyElem P t)) fun e => .bind (.ofOpt (tyInfo P e)) fun q => .bind (.ok (q.1 == esz)) fun _ => .bind (.ofOpt (boundsPV len lo hi)) fun r =>
      match lo with
      | none => .pure (.done (.bs b esz off r.2) [])
      | some _ => .pure (.done (if r.1 < r.2 then .bs b esz (off + r.1) (r.2 - r.1) else .slc []) [])
  | _ => .fail

def minMax (mx : Bool) : PV → List PV → Option PV
  | x, [] => some x
  | .int k a, .int k' b :: rest => if k = k' then minMax mx (.int k (if mx then (if b > a then b else a) else (if b < a then b else a))) rest else none
  | _, _ => none

def appendPV (P : Program) (id : Nat) (T T2 : TypeId) (s x : PV) : M Out :=
  .bind (.ok (T == T2)) fun _ => .bind (.ofOpt (tyElem P T)) fun E => .bind (.ofOpt (tyInfo P E)) fun q => .bind (.ofOpt (zeroPV P E)) fun z => .bind (.ok (z.cells.length == q.1 && 0 < q.1)) fun _ =>
  .bind (.hard id) fun n => .bind (.ok n.isNone) fun _ => .bind (esc0 x) fun y => match y.1 with
  | .slc xs => .bind (.ok (xs.all fun e => e.cells.length == q.1 && okCells e.cells)) fun _ => match s with
    | .nilS => .bind (.ok (xs.length * q.2 ≤ 140737488355328 && xs.length ≤ maxLen)) fun _ =>
        .pure (.done (.bs id q.1 0 xs.length) (y.2 ++ [.new id { els := xs, esz := q.1, ety := E, fro := 0, live := true, arr := true }]))
    | .bs b esz off len => .bind (.hard b) fun Bo => .bind (.ofOpt Bo) fun B =>
        .bind (.ok ((y.2.all fun e => e.id != b) && B.live && B.arr && off == 0 && len == B.els.length && esz == q.1 && B.esz == q.1 && B.ety == E && okCells (B.els.flatMap PV.cells) && (B.els.length + xs.length) * q.2 ≤ 140737488355328 && B.els.length + xs.length ≤ maxLen)) fun _ =>
        .pure (.done (.bs id q.1 0 (B.els.length + xs.length)) (y.2 ++ [.kill b, .new id { els := B.els ++ xs, esz := q.1, ety := E, fro := B.els.length, live := true, arr := true }]))
    | _ => .fail
  | _ => .fail

def newVar (id : Nat) (T : TypeId) (v : PV) : M Out :=
  .bind (.hard id) fun n => .bind (.ok (n.isNone && okCells v.cells && 0 < v.cells.length)) fun _ =>
    .pure (.done (.bp id v.cells.length 0 0) [.new id { els := [v], esz := v.cells.length, ety := T, fro := 0, live := true, arr := false }])

/-- Elements of a box overwritten. -/
def Box.over (B : Box) (off : Nat) (xs : List PV) : Box := { B with els := B.els.take off ++ xs ++ B.els.drop (off + xs.length) }
def copyPV (P : Program) (t : TypeId) (d x : PV) : M Out :=
  .bind (.ofOpt (tyElem P t)) fun E => .bind (.ofOpt (tyInfo P E)) fun q => .bind (esc0 x) fun y => match y.1, d with
  | .slc xs, .bs b esz off len => .bind (.hard b) fun Bo => .bind (.ofOpt Bo) fun B =>
      .bind (.ok (xs.all fun e => e.cells.length == q.1 && e.cells.all flatc)) fun _ =>
      .bind (.ok (B.live && B.arr && B.esz == esz && q.1 == esz && Nat.ble B.fro off && Nat.ble (off + min xs.length len) B.els.length)) fun _ =>
      .pure (.done (.int .i64 (min xs.length len : Nat)) [.new b (B.over off (xs.take (min xs.length len)))])
  | _, _ => .fail
def clearPV (P : Program) (t : TypeId) (d : PV) : M Out :=
  .bind (.ofOpt (tyElem P t)) fun E => .bind (.ofOpt (tyInfo P E)) fun q => .bind (.ofOpt (zeroPV P E)) fun z => match d with
  | .bs b esz off len => .bind (.hard b) fun Bo => .bind (.ofOpt Bo) fun B =>
      .bind (.ok (z.cells.length == q.1 && z.cells.all flatc)) fun _ =>
      .bind (.ok (B.live && B.arr && B.esz == esz && q.1 == esz && Nat.ble B.fro off && Nat.ble (off + len) B.els.length)) fun _ =>
      .pure (.done (.tup []) [.new b (B.over off (List.replicate len z))])
  | _ => .fail

def opVal (P : Program) (tb : Tab) (id : Nat) (o : Op) (vs : List PV) : M Out :=
  match o, vs with
  | .move _, [x] => .pure (.done x [])
  | .assign _, [x] => .pure (.done x [])
  | .nilCheck _, [x] => match x with
    | .bp _ _ _ _ | .rp _ | .fn _ _ _ => .pure (.done x [])
    | _ => .fail
  | .pick _ _ _, [.bool c, a, b] => .pure (.done (if c then a else b) [])
  | .alloc T, [] => .bind (.ofOpt (zeroPV P T)) fun z => newVar id T z
  | .box T _, [x] => newVar id T x
  | .build T parts, vs => .bind (.ok (buildable P T)) fun _ => .bind (.ofOpt (zeroPV P T)) fun z => .bind (.ofOpt (fillPV (placePV P T) z.cells ((parts.toList.map (·.1)).zip vs))) fun cs => .pure (.done (.agg cs) [])
  | .buildSlice T n parts, vs => .bind (.ok (parts.toList.map (·.1) == List.range n && 0 < n && n ≤ 1000)) fun _ => .bind (.ofOpt (tyElem P T)) fun E => .bind (.ofOpt (tyInfo P E)) fun q =>
      .bind (.ofOpt (zeroPV P E)) fun z => .bind (.hard id) fun b => .bind (esc1L vs) fun ys =>
      .bind (.ok (b.isNone && z.cells.length == q.1 && ys.1.length == n && (ys.1.all fun e => e.cells.length == q.1 && okCells e.cells) && 0 < q.1 && q.1 ≤ 1000)) fun _ =>
      .pure (.done (.bs id q.1 0 n) (ys.2 ++ [.new id { els := ys.1, esz := q.1, ety := E, fro := 0, live := true, arr := true }]))
  | .load T _, [.bp b esz i off] => .bind (.soft b) fun B => .bind (.ok (B.esz == esz)) fun _ => .bind (.ofOpt B.els[i]?) fun e => .bind (.ofOpt (partPV P T e.cells off)) fun v => .pure (.done v [])
  | .load T _, [.rp cs] => .bind (.ofOpt (partPV P T cs 0)) fun v => .pure (.done v [])
  | .store T _ _, [.bp b esz i off, v] => .bind (.hard b) fun Bo => .bind (.ofOpt Bo) fun B => .bind (.ofOpt B.els[i]?) fun e =>
      .bind (.ok (B.esz == esz && B.live && B.fro ≤ i && (P.info? T).isSome && v.cells.length == P.cellsOf T && okCells v.cells && off + v.cells.length ≤ e.cells.length)) fun _ =>
      if B.arr then .bind (escL v.cells) fun y => .bind (.ok (okCells y.1 && y.2.all fun e => e.id != b)) fun _ => .pure (.done (.tup []) (y.2 ++ [.wr b i (e.putCells off y.1)]))
      else .pure (.done (.tup []) [.wr b i (e.putCells off v.cells)])
  | .binOp op t _ _ _, [x, y] => .bind (.ofOpt (binPV op t P x y)) fun v => .pure (.done v [])
  | .unOp op _ _, [x] => .bind (.ofOpt (unPV op x)) fun v => .pure (.done v [])
  | .convert s d _, [x] => convM P s d x
  | .makeFunc (.func f) first cap, vs => .pure (.done (.fn f (vs.take first.size) (vs.drop first.size)) [])
  | .makeSlice T _ _, [.int _ l, .int _ c] => .bind (.ofOpt (tyElem P T)) fun E => .bind (.ofOpt (tyInfo P E)) fun q => .bind (.ofOpt (zeroPV P E)) fun z => .bind (.hard id) fun b =>
      .bind (.ok (b.isNone && z.cells.length == q.1 && okCells z.cells && 0 < q.1 && decide (0 ≤ l) && decide (l ≤ c) && decide ((q.2 : Int) * c ≤ 281474976710656) && decide (c ≤ 9223372036854775807))) fun _ =>
      .pure (.done (.bs id q.1 0 l.toNat) [.new id { els := List.replicate l.toNat z, esz := q.1, ety := E, fro := 0, live := true, arr := true }])
  | .slice T _ none none none, [x] => slicePV P T x none none
  | .slice T _ (some _) none none, [x, l] => slicePV P T x (some l) none
  | .slice T _ none (some _) none, [x, h] => slicePV P T x none (some h)
  | .slice T _ (some _) (some _) none, [x, l, h] => slicePV P T x (some l) (some h)
  | .fieldAddr T _ f, [.bp b esz i off] => .bind (.ofOpt (tyField P T f)) fun q => .pure (.done (.bp b esz i (off + q.1)) [])
  | .fieldAddr T _ f, [.rp cs] => .bind (.ofOpt (tyField P T f)) fun q => .pure (.done (.rp (cs.drop q.1)) [])
  | .field T _ f, [.agg cs] => .bind (.ofOpt (tyField P T f)) fun q => .bind (.ofOpt (partPV P q.2.1 cs q.1)) fun v => .pure (.done v [])
  | .indexAddr T _ _, [x, .int _ i] => match x with
    | .bp b esz k off => .bind (.ofOpt (tyArr P T)) fun q => .bind (.ofOpt (tyInfo P q.2)) fun s => .bind (.ok (decide (0 ≤ i) && decide (i < q.1) && decide (1 < q.1))) fun _ => .pure (.done (.bp b esz k (off + i.toNat * s.1)) [])
    | .rp cs => .bind (.ofOpt (tyArr P T)) fun q => .bind (.ofOpt (tyInfo P q.2)) fun s => .bind (.ok (decide (0 ≤ i) && decide (i < q.1) && decide (1 < q.1))) fun _ => .pure (.done (.rp (cs.drop (i.toNat * s.1))) [])
    | .bs b esz off len => .bind (.ofOpt (tyElem P T)) fun E => .bind (.ofOpt (tyInfo P E)) fun s => .bind (.ok (s.1 == esz && decide (0 ≤ i) && decide (i < len))) fun _ => .pure (.done (.bp b esz (off + i.toNat) 0) [])
    | .slc es => .bind (.ofOpt (tyElem P T)) fun E => .bind (.ofOpt (tyInfo P E)) fun s => .bind (.ok (decide (0 ≤ i))) fun _ => .bind (.ofOpt es[i.toNat]?) fun e => .bind (.ok (e.cells.length == s.1)) fun _ => .pure (.done (.rp e.cells) [])
    | _ => .fail
  | .index T _ _, [x, .int _ i] => match x with
    | .agg cs => .bind (.ofOpt (tyArr P T)) fun q => .bind (.ofOpt (tyInfo P q.2)) fun s => .bind (.ok (decide (0 ≤ i) && decide (i < q.1))) fun _ => .bind (.ofOpt (partPV P q.2 cs (i.toNat * s.1))) fun v => .pure (.done v [])
    | .str s => .bind (.ok (match P.underlying T with | some .string => decide (0 ≤ i) | _ => false)) fun _ => .bind (.ofOpt s[i.toNat]?) fun c => .pure (.done (.int .u8 c.toNat) [])
    | _ => .fail
  | .extract _ i, [.tup vs] => .bind (.ofOpt vs[i]?) fun v => .pure (.done v [])
  | .call ⟨.builtin .len, _, ts⟩, [x] => .bind (.ofOpt ts[0]?) fun t => .bind (.ofOpt (lenPV P t x)) fun v => .pure (.done v [])
  | .call ⟨.builtin .append, _, ts⟩, [s, x] => .bind (.ofOpt ts[0]?) fun t => .bind (.ofOpt ts[1]?) fun t2 => .bind (.ok (ts.size == 2)) fun _ => appendPV P id t t2 s x
  | .call ⟨.builtin .max, _, _⟩, x :: xs => .bind (.ofOpt (minMax true x xs)) fun v => .pure (.done v [])
  | .call ⟨.builtin .min, _, _⟩, x :: xs => .bind (.ofOpt (minMax false x xs)) fun v => .pure (.done v [])
  | .call ⟨.value _, _, _⟩, .fn f first cap :: args => match lkp tb id with
    | none => .bind (escCL first) fun x => .bind (esc1L args) fun y => .bind (escCL cap) fun z => .pure (.call f (x.1 ++ y.1 ++ z.1) (x.2 ++ y.2 ++ z.2))
    | some (θ, ν) => lendCall θ ν f (first ++ args ++ cap)
  | .call ⟨.value _, _, _⟩, .yld n stop :: args => .bind (.hard YID) fun _ => .bind (esc1L args) fun y => .pure (.yield n stop y.1 y.2)
  | .call ⟨.builtin .copy, _, ts⟩, [d, x] => .bind (.ofOpt ts[0]?) fun t => copyPV P t d x
  | .call ⟨.builtin .clear, _, ts⟩, [d] => .bind (.ofOpt ts[0]?) fun t => clearPV P t d
  | _, _ => .fail

def St.ev (st : St) : Operand → Option PV
  | .tmp t => st.var t
  | .const v => constPV v
  | .func f => some (.fn f [] [])
  | .global _ => none

def St.evs (st : St) : List Operand → Option (List PV)
  | [] => some []
  | x :: xs => match st.ev x with
    | none => none
    | some v => match st.evs xs with
      | none => none
      | some vs => some (v :: vs)

end Go.Vl
