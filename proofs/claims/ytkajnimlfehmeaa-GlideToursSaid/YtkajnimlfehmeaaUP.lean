/-
  Walks over values, made ready for simp.
-/
import Derived.Test.YtkajnimlfehmeaaUO
import Derived.KernelRfl
set_option linter.unusedSimpArgs false
set_option linter.unusedVariables false
namespace Go.Vl
open Go.RowKit


/-! ### the operations, one by one -/
section
variable (P : Program) (tb : Tab) (id : Nat) (bx : Bx)
theorem o_move (x : Operand) (v : PV) : opVal P tb id (.move x) [v] bx = some (.done v [], []) := rfl
theorem o_assign (x : Operand) (v : PV) : opVal P tb id (.assign x) [v] bx = some (.done v [], []) := rfl
theorem o_nilCheck_bp (x : Operand) (b e i o : Nat) : opVal P tb id (.nilCheck x) [.bp b e i o] bx = some (.done (.bp b e i o) [], []) := rfl
theorem o_nilCheck_rp (x : Operand) (cs : List PV) : opVal P tb id (.nilCheck x) [.rp cs] bx = some (.done (.rp cs) [], []) := rfl
theorem o_nilCheck_fn (x : Operand) (f : FuncId) (a c : List PV) : opVal P tb id (.nilCheck x) [.fn f a c] bx = some (.done (.fn f a c) [], []) := rfl
theorem o_pick_t (c x y : Operand) (v v' : PV) : opVal P tb id (.pick c x y) [.bool true, v, v'] bx = some (.done v [], []) := rfl
theorem o_pick_f (c x y : Operand) (v v' : PV) : opVal P tb id (.pick c x y) [.bool false, v, v'] bx = some (.done v' [], []) := rfl
theorem o_alloc (T : TypeId) : opVal P tb id (.alloc T) [] bx = M.bind (.ofOpt (zeroPV P T)) (fun z => newVar id T z) bx := rfl
theorem o_box (T : TypeId) (x : Operand) (v : PV) : opVal P tb id (.box T x) [v] bx = newVar id T v bx := rfl
theorem o_build (T : TypeId) (parts : Array (Nat × Operand)) (vs : List PV) : opVal P tb id (.build T parts) vs bx =
    M.bind (.ok (buildable P T)) (fun _ => .bind (.ofOpt (zeroPV P T)) fun z => .bind (.ofOpt (fillPV (placePV P T) z.cells ((parts.toList.map (·.1)).zip vs))) fun cs => .pure (.done (.agg cs) [])) bx := rfl
theorem o_buildSlice (T n : Nat) (parts : Array (Nat × Operand)) (vs : List PV) : opVal P tb id (.buildSlice T n parts) vs bx =
    M.bind (.ok (parts.toList.map (·.1) == List.range n && 0 < n && n ≤ 1000)) (fun _ => .bind (.ofOpt (tyElem P T)) fun E => .bind (.ofOpt (tyInfo P E)) fun q =>
      .bind (.ofOpt (zeroPV P E)) fun z => .bind (.hard id) fun b => .bind (esc1L vs) fun ys =>
      .bind (.ok (b.isNone && z.cells.length == q.1 && ys.1.length == n && (ys.1.all fun e => e.cells.length == q.1 && okCells e.cells) && 0 < q.1 && q.1 ≤ 1000)) fun _ =>
      .pure (.done (.bs id q.1 0 n) (ys.2 ++ [.new id { els := ys.1, esz := q.1, ety := E, fro := 0, live := true, arr := true }]))) bx := rfl
theorem o_load_bp (T : TypeId) (x : Operand) (b esz i off : Nat) : opVal P tb id (.load T x) [.bp b esz i off] bx =
    M.bind (.soft b) (fun B => .bind (.ok (B.esz == esz)) fun _ => .bind (.ofOpt B.els[i]?) fun e => .bind (.ofOpt (partPV P T e.cells off)) fun v => .pure (.done v [])) bx := rfl
theorem o_load_rp (T : TypeId) (x : Operand) (cs : List PV) : opVal P tb id (.load T x) [.rp cs] bx = M.bind (.ofOpt (partPV P T cs 0)) (fun v => .pure (.done v [])) bx := rfl
theorem o_store (T : TypeId) (x y : Operand) (b esz i off : Nat) (v : PV) : opVal P tb id (.store T x y) [.bp b esz i off, v] bx =
    M.bind (.hard b) (fun Bo => .bind (.ofOpt Bo) fun B => .bind (.ofOpt B.els[i]?) fun e =>
      .bind (.ok (B.esz == esz && B.live && B.fro ≤ i && (P.info? T).isSome && v.cells.length == P.cellsOf T && okCells v.cells && off + v.cells.length ≤ e.cells.length)) fun _ =>
      if B.arr then .bind (escL v.cells) fun y => .bind (.ok (okCells y.1 && y.2.all fun e => e.id != b)) fun _ => .pure (.done (.tup []) (y.2 ++ [.wr b i (e.putCells off y.1)]))
      else .pure (.done (.tup []) [.wr b i (e.putCells off v.cells)])) bx := rfl
theorem o_bin (op : BinOp) (t u : TypeId) (x y : Operand) (v v' : PV) : opVal P tb id (.binOp op t x y u) [v, v'] bx = M.bind (.ofOpt (binPV op t P v v')) (fun v => .pure (.done v [])) bx := rfl
theorem o_not (t : TypeId) (x : Operand) (a : Bool) : opVal P tb id (.unOp .not t x) [.bool a] bx = some (.done (.bool !a) [], []) := rfl
theorem o_neg (t : TypeId) (x : Operand) (k : IntKind) (a : Int) : opVal P tb id (.unOp .neg t x) [.int k a] bx = some (.done (.int k (k.wrap (0 - a))) [], []) := rfl
theorem o_conv (s d : TypeId) (x : Operand) (v : PV) : opVal P tb id (.convert s d x) [v] bx = convM P s d v bx := rfl
theorem o_makeFunc (f : FuncId) (first cap : Array Operand) (vs : List PV) : opVal P tb id (.makeFunc (.func f) first cap) vs bx = some (.done (.fn f (vs.take first.size) (vs.drop first.size)) [], []) := rfl
theorem o_makeSlice (T : TypeId) (x y : Operand) (k k' : IntKind) (l c : Int) : opVal P tb id (.makeSlice T x y) [.int k l, .int k' c] bx =
    M.bind (.ofOpt (tyElem P T)) (fun E => .bind (.ofOpt (tyInfo P E)) fun q => .bind (.ofOpt (zeroPV P E)) fun z => .bind (.hard id) fun b =>
      .bind (.ok (b.isNone && z.cells.length == q.1 && okCells z.cells && 0 < q.1 && decide (0 ≤ l) && decide (l ≤ c) && decide ((q.2 : Int) * c ≤ 281474976710656) && decide (c ≤ 9223372036854775807))) fun _ =>
      .pure (.done (.bs id q.1 0 l.toNat) [.new id { els := List.replicate l.toNat z, esz := q.1, ety := E, fro := 0, live := true, arr := true }])) bx := rfl
theorem o_slice0 (T : TypeId) (x : Operand) (v : PV) : opVal P tb id (.slice T x none none none) [v] bx = slicePV P T v none none bx := rfl
theorem o_slice1 (T : TypeId) (x l : Operand) (v vl : PV) : opVal P tb id (.slice T x (some l) none none) [v, vl] bx = slicePV P T v (some vl) none bx := rfl
theorem o_slice2 (T : TypeId) (x h : Operand) (v vh : PV) : opVal P tb id (.slice T x none (some h) none) [v, vh] bx = slicePV P T v none (some vh) bx := rfl
theorem o_slice3 (T : TypeId) (x l h : Operand) (v vl vh : PV) : opVal P tb id (.slice T x (some l) (some h) none) [v, vl, vh] bx = slicePV P T v (some vl) (some vh) bx := rfl
theorem o_fieldAddr_bp (T : TypeId) (x : Operand) (f b e i o : Nat) : opVal P tb id (.fieldAddr T x f) [.bp b e i o] bx = M.bind (.ofOpt (tyField P T f)) (fun q => .pure (.done (.bp b e i (o + q.1)) [])) bx := rfl
theorem o_fieldAddr_rp (T : TypeId) (x : Operand) (f : Nat) (cs : List PV) : opVal P tb id (.fieldAddr T x f) [.rp cs] bx = M.bind (.ofOpt (tyField P T f)) (fun q => .pure (.done (.rp (cs.drop q.1)) [])) bx := rfl
theorem o_field (T : TypeId) (x : Operand) (f : Nat) (cs : List PV) : opVal P tb id (.field T x f) [.agg cs] bx = M.bind (.ofOpt (tyField P T f)) (fun q => .bind (.ofOpt (partPV P q.2.1 cs q.1)) fun v => .pure (.done v [])) bx := rfl
theorem o_indexAddr_bp (T : TypeId) (x y : Operand) (b e k o : Nat) (ik : IntKind) (i : Int) : opVal P tb id (.indexAddr T x y) [.bp b e k o, .int ik i] bx =
    M.bind (.ofOpt (tyArr P T)) (fun q => .bind (.ofOpt (tyInfo P q.2)) fun s => .bind (.ok (decide (0 ≤ i) && decide (i < q.1) && decide (1 < q.1))) fun _ => .pure (.done (.bp b e k (o + i.toNat * s.1)) [])) bx := rfl
theorem o_indexAddr_rp (T : TypeId) (x y : Operand) (cs : List PV) (ik : IntKind) (i : Int) : opVal P tb id (.indexAddr T x y) [.rp cs, .int ik i] bx =
    M.bind (.ofOpt (tyArr P T)) (fun q => .bind (.ofOpt (tyInfo P q.2)) fun s => .bind (.ok (decide (0 ≤ i) && decide (i < q.1) && decide (1 < q.1))) fun _ => .pure (.done (.rp (cs.drop (i.toNat * s.1))) [])) bx := rfl
theorem o_indexAddr_bs (T : TypeId) (x y : Operand) (b e o n : Nat) (ik : IntKind) (i : Int) : opVal P tb id (.indexAddr T x y) [.bs b e o n, .int ik i] bx =
    M.bind (.ofOpt (tyElem P T)) (fun E => .bind (.ofOpt (tyInfo P E)) fun s => .bind (.ok (s.1 == e && decide (0 ≤ i) && decide (i < n))) fun _ => .pure (.done (.bp b e (o + i.toNat) 0) [])) bx := rfl
theorem o_indexAddr_slc (T : TypeId) (x y : Operand) (es : List PV) (ik : IntKind) (i : Int) : opVal P tb id (.indexAddr T x y) [.slc es, .int ik i] bx =
    M.bind (.ofOpt (tyElem P T)) (fun E => .bind (.ofOpt (tyInfo P E)) fun s => .bind (.ok (decide (0 ≤ i))) fun _ => .bind (.ofOpt es[i.toNat]?) fun e => .bind (.ok (e.cells.length == s.1)) fun _ => .pure (.done (.rp e.cells) [])) bx := rfl
theorem o_index_agg (T : TypeId) (x y : Operand) (cs : List PV) (ik : IntKind) (i : Int) : opVal P tb id (.index T x y) [.agg cs, .int ik i] bx =
    M.bind (.ofOpt (tyArr P T)) (fun q => .bind (.ofOpt (tyInfo P q.2)) fun s => .bind (.ok (decide (0 ≤ i) && decide (i < q.1))) fun _ => .bind (.ofOpt (partPV P q.2 cs (i.toNat * s.1))) fun v => .pure (.done v [])) bx := rfl
theorem o_index_str (T : TypeId) (x y : Operand) (s : ByteArray) (ik : IntKind) (i : Int) : opVal P tb id (.index T x y) [.str s, .int ik i] bx =
    M.bind (.ok (match P.underlying T with | some .string => decide (0 ≤ i) | _ => false)) (fun _ => .bind (.ofOpt s[i.toNat]?) fun c => .pure (.done (.int .u8 c.toNat) [])) bx := rfl
theorem o_extract (x : Operand) (i : Nat) (vs : List PV) : opVal P tb id (.extract x i) [.tup vs] bx = M.bind (.ofOpt vs[i]?) (fun v => .pure (.done v [])) bx := rfl
theorem o_len (as : Array Operand) (ts : Array TypeId) (x : PV) : opVal P tb id (.call ⟨.builtin .len, as, ts⟩) [x] bx = M.bind (.ofOpt ts[0]?) (fun t => .bind (.ofOpt (lenPV P t x)) fun v => .pure (.done v [])) bx := rfl
theorem o_append (as : Array Operand) (ts : Array TypeId) (s x : PV) : opVal P tb id (.call ⟨.builtin .append, as, ts⟩) [s, x] bx =
    M.bind (.ofOpt ts[0]?) (fun t => .bind (.ofOpt ts[1]?) fun t2 => .bind (.ok (ts.size == 2)) fun _ => appendPV P id t t2 s x) bx := rfl
theorem o_max (as : Array Operand) (ts : Array TypeId) (x : PV) (xs : List PV) : opVal P tb id (.call ⟨.builtin .max, as, ts⟩) (x :: xs) bx = M.bind (.ofOpt (minMax true x xs)) (fun v => .pure (.done v [])) bx := rfl
theorem o_min (as : Array Operand) (ts : Array TypeId) (x : PV) (xs : List PV) : opVal P tb id (.call ⟨.builtin .min, as, ts⟩) (x :: xs) bx = M.bind (.ofOpt (minMax false x xs)) (fun v => .pure (.done v [])) bx := rfl
theorem o_call (fo : Operand) (as : Array Operand) (ts : Array TypeId) (f : FuncId) (first cap args : List PV) (h : lkp tb id = none) : opVal P tb id (.call ⟨.value fo, as, ts⟩) (.fn f first cap :: args) bx =
    M.bind (escCL first) (fun x => .bind (esc1L args) fun y => .bind (escCL cap) fun z => .pure (.call f (x.1 ++ y.1 ++ z.1) (x.2 ++ y.2 ++ z.2))) bx := by simp only [opVal, h]
theorem o_lend (fo : Operand) (as : Array Operand) (ts : Array TypeId) (f : FuncId) (first cap args : List PV) (θ ν : List (Nat × Nat)) (h : lkp tb id = some (θ, ν)) : opVal P tb id (.call ⟨.value fo, as, ts⟩) (.fn f first cap :: args) bx =
    lendCall θ ν f (first ++ args ++ cap) bx := by simp only [opVal, h]
theorem o_copy (as : Array Operand) (ts : Array TypeId) (d x : PV) : opVal P tb id (.call ⟨.builtin .copy, as, ts⟩) [d, x] bx = M.bind (.ofOpt ts[0]?) (fun t => copyPV P t d x) bx := rfl
theorem o_clear (as : Array Operand) (ts : Array TypeId) (d : PV) : opVal P tb id (.call ⟨.builtin .clear, as, ts⟩) [d] bx = M.bind (.ofOpt ts[0]?) (fun t => clearPV P t d) bx := rfl
theorem o_yld (fo : Operand) (as : Array Operand) (ts : Array TypeId) (n stop : Nat) (args : List PV) : opVal P tb id (.call ⟨.value fo, as, ts⟩) (.yld n stop :: args) bx =
    M.bind (.hard YID) (fun _ => .bind (esc1L args) fun y => .pure (.yield n stop y.1 y.2)) bx := rfl
end

section
variable (P : Program) (t : TypeId) (k k' : IntKind) (a b : Int)
theorem b_add : binPV .add t P (.int k a) (.int k b) = some (.int k (k.wrap (a + b))) := by simp [binPV, binInt]
theorem b_sub : binPV .sub t P (.int k a) (.int k b) = some (.int k (k.wrap (a - b))) := by simp [binPV, binInt]
theorem b_mul : binPV .mul t P (.int k a) (.int k b) = some (.int k (k.wrap (a * b))) := by simp [binPV, binInt]
theorem b_quo (hb : b ≠ 0) : binPV .quo t P (.int k a) (.int k b) = some (.int k (k.wrap (a.tdiv b))) := by simp [binPV, binInt, hb]
theorem b_rem (hb : b ≠ 0) : binPV .rem t P (.int k a) (.int k b) = some (.int k (a.tmod b)) := by simp [binPV, binInt, hb]
theorem b_and : binPV .and t P (.int k a) (.int k b) = some (.int k (k.wrap (BitVec.ofInt k.bits a &&& BitVec.ofInt k.bits b).toNat)) := by simp [binPV, binInt]
theorem b_or : binPV .or t P (.int k a) (.int k b) = some (.int k (k.wrap (BitVec.ofInt k.bits a ||| BitVec.ofInt k.bits b).toNat)) := by simp [binPV, binInt]
theorem b_eql : binPV .eql t P (.int k a) (.int k b) = some (.bool (a == b)) := by simp [binPV, binInt, cmpInt]
theorem b_neq : binPV .neq t P (.int k a) (.int k b) = some (.bool (a != b)) := by simp [binPV, binInt, cmpInt]
theorem b_lss : binPV .lss t P (.int k a) (.int k b) = some (.bool (decide (a < b))) := by simp [binPV, binInt, cmpInt]
theorem b_leq : binPV .leq t P (.int k a) (.int k b) = some (.bool (decide (a ≤ b))) := by simp [binPV, binInt, cmpInt]
theorem b_gtr : binPV .gtr t P (.int k a) (.int k b) = some (.bool (decide (b < a))) := by simp [binPV, binInt, cmpInt]
theorem b_geq : binPV .geq t P (.int k a) (.int k b) = some (.bool (decide (b ≤ a))) := by simp [binPV, binInt, cmpInt]
theorem b_shl : binPV .shl t P (.int k a) (.int k' b) = shiftInt .shl k a b := rfl
theorem b_shr : binPV .shr t P (.int k a) (.int k' b) = shiftInt .shr k a b := rfl
theorem b_str (op : BinOp) (x y : ByteArray) : binPV op t P (.str x) (.str y) = binStr op x y := rfl
theorem b_beq (x y : Bool) (h : P.underlying t = some .bool) : binPV .eql t P (.bool x) (.bool y) = some (.bool (x == y)) := by simp [binPV, h]
theorem b_bne (x y : Bool) (h : P.underlying t = some .bool) : binPV .neq t P (.bool x) (.bool y) = some (.bool (!(x == y))) := by simp [binPV, h]
end

def keepVars : List Nat → List (Nat × PV) → List (Nat × PV)
  | [], _ => []
  | t :: ks, vs => match lkp vs t with
    | some v => (t, v) :: keepVars ks vs
    | none => keepVars ks vs
def St.keep (ks : List Nat) (st : St) : St := ⟨fun t => if ks.contains t then st.var t else none, st.box, st.out, st.yl⟩
theorem keepVars_look (vs : List (Nat × PV)) : ∀ (ks : List Nat) (t : Nat), lkp (keepVars ks vs) t = if ks.contains t then lkp vs t else none
  | [], t => rfl
  | k :: ks, t => by
    unfold keepVars
    by_cases e : t = k
    · subst e
      cases h : lkp vs t with
      | none =>
        rw [keepVars_look vs ks t, h]; simp
      | some v => simp [lkp]
    · have hne : ¬ k = t := fun x => e x.symm
      cases h : lkp vs k with
      | none => simp only [keepVars_look vs ks t]; simp [e]
      | some v => simp only [lkp, e, if_false, keepVars_look vs ks t]; simp [e]
theorem of_keep (ks : List Nat) (vs : List (Nat × PV)) (bs : List (Nat × Box)) (o : List (List PV)) (y : Option (Nat × Nat)) : (St.ofG vs bs o y).keep ks = St.ofG (keepVars ks vs) bs o y := by
  refine St.ext' ?_ rfl rfl rfl
  funext t
  simp only [St.keep, St.ofG, keepVars_look]
theorem le_keep (ks : List Nat) (st : St) : Le st (st.keep ks) := by
  rintro C a w ⟨ρ, im, h⟩
  refine ⟨ρ, im, h.root, h.nt, h.dfr, h.imc, ?_, h.rho, h.box, h.inj⟩
  intro t v hv
  simp only [St.keep] at hv
  split at hv
  · exact h.var t v hv
  · cases hv

/-- What a region asks of its order. -/
def drawQ : Bool → Array Oper → List Acc → Prop
  | false, _, _ => True
  | true, ops, accs => drawOk ops accs.reverse = true

/-- A test, and its two arms. -/
def onCond (x : Option PV) (yes no : Unit → Prop) : Prop := match x with
  | some (.bool true) => yes ()
  | some (.bool false) => no ()
  | _ => False

/-- The code between loops, as one condition. -/
def vx (P : Program) (tb : Tab) (nt : Nat) (ks : List Nat) : Code → (Exit → St → Prop) → St → Prop
  | .skip, Q, st => Q .normal st
  | .label _, Q, st => Q .normal st
  | .exit id, Q, st => Q (.exit id) st
  | .ret, Q, st => Q .ret st
  | .seq a b, Q, st => vx P tb nt ks a (vthen (vx P tb nt ks b Q) Q) st
  | .region id ops draw, Q, st => 100 * id + ops.toList.length ≤ LENT ∧ vops P tb ops nt (100 * id) 0 ops.toList st [] fun st' accs => drawQ draw ops accs ∧ Q .normal (st'.keep ks)
  | .cond c a b, Q, st => onCond (st.ev c) (fun _ => vx P tb nt ks a Q st) (fun _ => vx P tb nt ks b Q st)
  | .block id c, Q, st => vx P tb nt ks c (vblock id Q) st
  | .loop c, Q, st => Vwp P nt (.loop c) Q st
  | .rangeFunc f ps a c, Q, st => Vwp P nt (.rangeFunc f ps a c) Q st
  | .scope c, Q, st => Vwp P nt (.scope c) Q st
  | .goto l, Q, st => Vwp P nt (.goto l) Q st
  | .refuse s, Q, st => Vwp P nt (.refuse s) Q st

theorem vx_sound {P : Program} {tb : Tab} {nt : Nat} {ks : List Nat} (hm : P.follows .mixedOrders = true) : ∀ (c : Code) (Q : Exit → St → Prop) (st : St), vx P tb nt ks c Q st → Vwp P nt c Q st
  | .skip, Q, st, h => vwp_skip h
  | .label _, Q, st, h => vwp_label h
  | .exit id, Q, st, h => vwp_exit h
  | .ret, Q, st, h => vwp_ret h
  | .seq a b, Q, st, h => vwp_seq (vwp_mono (vx_sound hm a _ st h) fun e s q => by
      cases e with
      | normal => exact vx_sound hm b Q s q
      | _ => exact q)
  | .region id ops draw, Q, st, ⟨hL, h⟩ => fun C h1 h2 rd a w hr => by
      have := vwp_region (tb := tb) (id := id) (draw := draw) (ops := ops) (Q := fun e s => Q e (s.keep ks)) (100 * id) hm (by simpa using hL) (vops_mono (fun s l ⟨k1, k2⟩ => ⟨fun hd => by subst hd; exact k1, k2⟩) _ _ _ _ h) C h1 h2 rd a w hr
      exact wpIn_mono this fun e a' w' ⟨s, q, r⟩ => ⟨_, q, le_keep ks s C a' w' r⟩
  | .cond c a b, Q, st, h => by
      simp only [vx] at h
      unfold onCond at h
      split at h
      · rename_i ht
        exact vwp_cond ht (by simpa using vx_sound hm a Q st h)
      · rename_i ht
        exact vwp_cond ht (by simpa using vx_sound hm b Q st h)
      · exact h.elim
  | .block id c, Q, st, h => vwp_block (vx_sound hm c _ st h)
  | .loop _, _, _, h => h
  | .rangeFunc _ _ _ _, _, _, h => h
  | .scope _, _, _, h => h
  | .goto _, _, _, h => h
  | .refuse _, _, _, h => h

/-! ### a walk with what is still to come as data -/
inductive It where
  | code (c : Code)
  | blk (id : Nat)
  | again (J : St → Prop)

mutual
def go (P : Program) (tb : Tab) (nt : Nat) (ks : List Nat) : List It → (Exit → St → Prop) → St → Prop
  | [], Q, st => Q .normal st
  | .blk _ :: k, Q, st => go P tb nt ks k Q st
  | .again J :: _, _, st => J st
  | .code c :: k, Q, st => vx P tb nt ks c (fun e s => gleave P tb nt ks k Q e s) st
def gleave (P : Program) (tb : Tab) (nt : Nat) (ks : List Nat) : List It → (Exit → St → Prop) → Exit → St → Prop
  | [], Q, e, st => Q e st
  | .blk j :: k, Q, e, st => match e with
    | .exit i => if i = j then go P tb nt ks k Q st else gleave P tb nt ks k Q (.exit i) st
    | .normal => go P tb nt ks k Q st
    | e => gleave P tb nt ks k Q e st
  | .again J :: k, Q, e, st => match e with
    | .normal => J st
    | e => gleave P tb nt ks k Q e st
  | .code c :: k, Q, e, st => match e with
    | .normal => vx P tb nt ks c (fun e s => gleave P tb nt ks k Q e s) st
    | e => gleave P tb nt ks k Q e st
end

section
variable {P : Program} {tb : Tab} {nt : Nat} {ks : List Nat} (k : List It) (Q : Exit → St → Prop) (st : St)

theorem gleave_normal : ∀ (k : List It) (Q : Exit → St → Prop) (st : St), gleave P tb nt ks k Q .normal st = go P tb nt ks k Q st
  | [], Q, st => by simp only [gleave, go]
  | .blk _ :: k, Q, st => by simp only [gleave, go]
  | .again _ :: k, Q, st => by simp only [gleave, go]
  | .code _ :: k, Q, st => by simp only [gleave, go]
theorem gleave_code (c : Code) (e : Exit) (he : e ≠ .normal) : gleave P tb nt ks (.code c :: k) Q e st = gleave P tb nt ks k Q e st := by cases e <;> first | exact absurd rfl he | simp only [gleave]

theorem g_nil : go P tb nt ks [] Q st = Q .normal st := by simp only [go]
theorem g_blk (id : Nat) : go P tb nt ks (.blk id :: k) Q st = go P tb nt ks k Q st := by simp only [go]
theorem g_again (J : St → Prop) : go P tb nt ks (.again J :: k) Q st = J st := by simp only [go]
theorem g_skip : go P tb nt ks (.code .skip :: k) Q st = go P tb nt ks k Q st := by simp only [go, vx, gleave_normal]
theorem g_label (l : Nat) : go P tb nt ks (.code (.label l) :: k) Q st = go P tb nt ks k Q st := by simp only [go, vx, gleave_normal]
theorem g_seq (a b : Code) : go P tb nt ks (.code (.seq a b) :: k) Q st = go P tb nt ks (.code a :: .code b :: k) Q st := by
  simp only [go, vx]
  congr 1
  funext e s
  cases e <;> simp only [vthen, gleave]
theorem g_block (id : Nat) (c : Code) : go P tb nt ks (.code (.block id c) :: k) Q st = go P tb nt ks (.code c :: .blk id :: k) Q st := by
  simp only [go, vx]
  congr 1
  funext e s
  cases e <;> simp only [vblock, gleave, gleave_normal]
/-- A block is left. -/
def gexit (P : Program) (tb : Tab) (nt : Nat) (ks : List Nat) (i : Nat) (k : List It) (Q : Exit → St → Prop) (st : St) : Prop := gleave P tb nt ks k Q (.exit i) st
theorem g_exit (i : Nat) : go P tb nt ks (.code (.exit i) :: k) Q st = gexit P tb nt ks i k Q st := by simp only [go, vx, gexit]
theorem gexit_blk (i j : Nat) : gexit P tb nt ks i (.blk j :: k) Q st = if i = j then go P tb nt ks k Q st else gexit P tb nt ks i k Q st := by simp only [gexit, gleave]
theorem gexit_code (i : Nat) (c : Code) : gexit P tb nt ks i (.code c :: k) Q st = gexit P tb nt ks i k Q st := by simp only [gexit, gleave]
theorem gexit_again (i : Nat) (J : St → Prop) : gexit P tb nt ks i (.again J :: k) Q st = gexit P tb nt ks i k Q st := by simp only [gexit, gleave]
theorem gexit_nil (i : Nat) : gexit P tb nt ks i [] Q st = Q (.exit i) st := by simp only [gexit, gleave]
theorem gleave_ret : ∀ (k : List It) (Q : Exit → St → Prop) (st : St), gleave P tb nt ks k Q .ret st = Q .ret st
  | [], Q, st => by simp only [gleave]
  | .blk _ :: k, Q, st => by simp only [gleave, gleave_ret k]
  | .again _ :: k, Q, st => by simp only [gleave, gleave_ret k]
  | .code _ :: k, Q, st => by simp only [gleave, gleave_ret k]
theorem g_ret : go P tb nt ks (.code .ret :: k) Q st = Q .ret st := by simp only [go, vx, gleave_ret]
def gcond (P : Program) (tb : Tab) (nt : Nat) (ks : List Nat) (x : Option PV) (a b : Code) (k : List It) (Q : Exit → St → Prop) (st : St) : Prop :=
  onCond x (fun _ => go P tb nt ks (.code a :: k) Q st) (fun _ => go P tb nt ks (.code b :: k) Q st)
theorem g_cond (c : Operand) (a b : Code) : go P tb nt ks (.code (.cond c a b) :: k) Q st = gcond P tb nt ks (st.ev c) a b k Q st := by simp only [go, vx, gcond]
theorem gcond_true (a b : Code) : gcond P tb nt ks (some (.bool true)) a b k Q st = go P tb nt ks (.code a :: k) Q st := rfl
theorem gcond_false (a b : Code) : gcond P tb nt ks (some (.bool false)) a b k Q st = go P tb nt ks (.code b :: k) Q st := rfl
theorem gcond_cases {t : Bool} {a b : Code} (h1 : t = true → go P tb nt ks (.code a :: k) Q st) (h2 : t = false → go P tb nt ks (.code b :: k) Q st) : gcond P tb nt ks (some (.bool t)) a b k Q st := by
  cases t
  · exact h2 rfl
  · exact h1 rfl

/-- The rest of a region. -/
def gops (P : Program) (tb : Tab) (nt : Nat) (ks : List Nat) (ops : Array Oper) (base i : Nat) (rest : List Oper) (accs : List Acc) (draw : Bool) (k : List It) (Q : Exit → St → Prop) (st : St) : Prop :=
  vops P tb ops nt base i rest st accs fun st' accs => drawQ draw ops accs ∧ go P tb nt ks k Q (st'.keep ks)
def gwanted (P : Program) (tb : Tab) (nt : Nat) (ks : List Nat) (x : Option Bool) (ops : Array Oper) (base i : Nat) (o : Oper) (rest : List Oper) (accs : List Acc) (draw : Bool) (k : List It) (Q : Exit → St → Prop) (st : St) : Prop :=
  onWanted x (fun _ => gops P tb nt ks ops base (i + 1) rest ([] :: accs) draw k Q (st.put o.dst (.tup [])))
    (fun _ => onVals (st.evs o.op.operands.toList) fun vs => onOut P st.out st.yl (opVal P tb (base + i) o.op vs st.box) fun v es l => gops P tb nt ks ops base (i + 1) rest (l :: accs) draw k Q ((effsOn es st).put o.dst v))
def gvals (P : Program) (tb : Tab) (nt : Nat) (ks : List Nat) (x : Option (List PV)) (ops : Array Oper) (base i : Nat) (o : Oper) (rest : List Oper) (accs : List Acc) (draw : Bool) (k : List It) (Q : Exit → St → Prop) (st : St) : Prop :=
  onVals x fun vs => onOut P st.out st.yl (opVal P tb (base + i) o.op vs st.box) fun v es l => gops P tb nt ks ops base (i + 1) rest (l :: accs) draw k Q ((effsOn es st).put o.dst v)
def gout (P : Program) (tb : Tab) (nt : Nat) (ks : List Nat) (x : Option (Out × Acc)) (ops : Array Oper) (base i : Nat) (dst : Option Tmp) (rest : List Oper) (accs : List Acc) (draw : Bool) (k : List It) (Q : Exit → St → Prop) (st : St) : Prop :=
  onOut P st.out st.yl x fun v es l => gops P tb nt ks ops base (i + 1) rest (l :: accs) draw k Q ((effsOn es st).put dst v)
def gcall (P : Program) (tb : Tab) (nt : Nat) (ks : List Nat) (f : FuncId) (args : List PV) (es : List Eff) (l : Acc) (ops : Array Oper) (base i : Nat) (dst : Option Tmp) (rest : List Oper) (accs : List Acc) (draw : Bool) (k : List It) (Q : Exit → St → Prop)
    (st : St) : Prop := vcall P f args fun r => gops P tb nt ks ops base (i + 1) rest (l :: accs) draw k Q ((effsOn (if flatPV r then [] else es) st).put dst r)

theorem g_region (id : Nat) (l : List Oper) (draw : Bool) : go P tb nt ks (.code (.region id l.toArray draw) :: k) Q st = (100 * id + l.length ≤ LENT ∧ gops P tb nt ks l.toArray (100 * id) 0 l [] draw k Q st) := by
  simp only [go, vx, gops, gleave_normal]
variable (ops : Array Oper) (base i : Nat) (o : Oper) (rest : List Oper) (accs : List Acc) (draw : Bool)
theorem gops_nil : gops P tb nt ks ops base i [] accs draw k Q st = (drawQ draw ops accs ∧ go P tb nt ks k Q (st.keep ks)) := by simp only [gops, vops]
theorem gops_cons : gops P tb nt ks ops base i (o :: rest) accs draw k Q st = (dstOk nt o = true ∧ gwanted P tb nt ks (wantedPV ops o st) ops base i o rest accs draw k Q st) := by simp only [gops, vops, gwanted]
theorem gwanted_false : gwanted P tb nt ks (some false) ops base i o rest accs draw k Q st = gops P tb nt ks ops base (i + 1) rest ([] :: accs) draw k Q (st.put o.dst (.tup [])) := rfl
theorem gwanted_true : gwanted P tb nt ks (some true) ops base i o rest accs draw k Q st = gvals P tb nt ks (st.evs o.op.operands.toList) ops base i o rest accs draw k Q st := rfl
theorem gwanted_cases {t : Bool} (h1 : t = true → gwanted P tb nt ks (some true) ops base i o rest accs draw k Q st) (h2 : t = false → gwanted P tb nt ks (some false) ops base i o rest accs draw k Q st) :
    gwanted P tb nt ks (some t) ops base i o rest accs draw k Q st := by
  cases t
  · exact h2 rfl
  · exact h1 rfl
theorem gvals_some (vs : List PV) : gvals P tb nt ks (some vs) ops base i o rest accs draw k Q st = gout P tb nt ks (opVal P tb (base + i) o.op vs st.box) ops base i o.dst rest accs draw k Q st := rfl
theorem gout_done (dst : Option Tmp) (v : PV) (es : List Eff) (l : Acc) : gout P tb nt ks (some (.done v es, l)) ops base i dst rest accs draw k Q st =
    gops P tb nt ks ops base (i + 1) rest ((l ++ effAcc es) :: accs) draw k Q ((effsOn es st).put dst v) := rfl
theorem gout_call (dst : Option Tmp) (f : FuncId) (args : List PV) (es : List Eff) (l : Acc) : gout P tb nt ks (some (.call f args es, l)) ops base i dst rest accs draw k Q st =
    gcall P tb nt ks f args es (l ++ effAcc es) ops base i dst rest accs draw k Q st := rfl
def gcallB (P : Program) (tb : Tab) (nt : Nat) (ks : List Nat) (f : FuncId) (args : List PV) (bxs : List (Nat × Box)) (es : List Eff) (θ ν : List (Nat × Nat)) (l : Acc) (ops : Array Oper) (base i : Nat) (dst : Option Tmp) (rest : List Oper) (accs : List Acc) (draw : Bool) (k : List It) (Q : Exit → St → Prop)
    (st : St) : Prop := ∃ r bxs' r' ef, SoundB P f args bxs r bxs' ∧ land θ ν bxs' r = some (r', ef) ∧ gops P tb nt ks ops base (i + 1) rest ((l ++ effAcc es ++ effAcc ef) :: accs) draw k Q ((effsOn ((if flatB r bxs' then [] else es) ++ ef) st).put dst r')
/-- a call that has been lent boxes, and what came back -/
def gland (P : Program) (tb : Tab) (nt : Nat) (ks : List Nat) (x : Option (PV × List Eff)) (fl : Bool) (es : List Eff) (l : Acc) (ops : Array Oper) (base i : Nat) (dst : Option Tmp) (rest : List Oper) (accs : List Acc) (draw : Bool) (k : List It) (Q : Exit → St → Prop)
    (st : St) : Prop := match x with
  | some (r', ef) => gops P tb nt ks ops base (i + 1) rest ((l ++ effAcc es ++ effAcc ef) :: accs) draw k Q ((effsOn ((if fl then [] else es) ++ ef) st).put dst r')
  | none => False
theorem gout_callB (dst : Option Tmp) (f : FuncId) (args : List PV) (bxs : List (Nat × Box)) (es : List Eff) (θ ν : List (Nat × Nat)) (l : Acc) : gout P tb nt ks (some (.callB f args bxs es θ ν, l)) ops base i dst rest accs draw k Q st =
    gcallB P tb nt ks f args bxs es θ ν l ops base i dst rest accs draw k Q st := rfl
theorem gout_yield (dst : Option Tmp) (n stop : Nat) (args : List PV) (es : List Eff) (l : Acc) : gout P tb nt ks (some (.yield n stop args es, l)) ops base i dst rest accs draw k Q st =
    (st.yl = some (n, stop) ∧ st.out.length ≤ stop ∧ gops P tb nt ks ops base (i + 1) rest ((l ++ effAcc es ++ [(YID, true)]) :: accs) draw k Q ((effsOn (es ++ [.yld args]) st).put dst (.bool (decide (st.out.length < stop))))) := rfl
theorem gcallB_intro {dst : Option Tmp} {f : FuncId} {args : List PV} {bxs : List (Nat × Box)} {es : List Eff} {θ ν : List (Nat × Nat)} {l : Acc} {r : PV} {bxs' : List (Nat × Box)} (hs : SoundB P f args bxs r bxs')
    (h : gland P tb nt ks (land θ ν bxs' r) (flatB r bxs') es l ops base i dst rest accs draw k Q st) : gcallB P tb nt ks f args bxs es θ ν l ops base i dst rest accs draw k Q st := by
  unfold gland at h
  split at h
  · rename_i r' ef hl; exact ⟨r, bxs', r', ef, hs, hl, h⟩
  · exact h.elim
theorem gland_some (r' : PV) (ef : List Eff) (fl : Bool) (es : List Eff) (l : Acc) (dst : Option Tmp) : gland P tb nt ks (some (r', ef)) fl es l ops base i dst rest accs draw k Q st =
    gops P tb nt ks ops base (i + 1) rest ((l ++ effAcc es ++ effAcc ef) :: accs) draw k Q ((effsOn ((if fl then [] else es) ++ ef) st).put dst r') := rfl
theorem gcall_intro {dst : Option Tmp} {f : FuncId} {args : List PV} {es : List Eff} {l : Acc} {r : PV} (hs : SoundAt P f args r)
    (h : gops P tb nt ks ops base (i + 1) rest (l :: accs) draw k Q ((effsOn (if flatPV r then [] else es) st).put dst r)) : gcall P tb nt ks f args es l ops base i dst rest accs draw k Q st := ⟨r, hs, h⟩
theorem drawQ_false : drawQ false ops accs = True := rfl
theorem drawQ_true (h : drawOk ops accs.reverse = true) : drawQ true ops accs := h
end

theorem vret_ret (P : Program) (rs : List ResultVar) (R : PV → Prop) (s : St) : vret P rs R .ret s = match resPV P rs s with | some r => R r | none => False := rfl
theorem vret_normal (P : Program) (rs : List ResultVar) (R : PV → Prop) (s : St) : vret P rs R .normal s = match resPV P rs s with | some r => R r | none => False := rfl

/-- A function, as one condition. -/
theorem vretB_ret (P : Program) (rs : List ResultVar) (r : PV) (bxs' : List (Nat × Box)) (vs : List (Nat × PV)) (bs : List (Nat × Box)) (o : List (List PV)) (y : Option (Nat × Nat)) : vretB P rs r bxs' .ret (St.ofG vs bs o y) =
    ∃ xs l, resCells P (St.ofG vs bs o y) rs (lkp bs) = some (xs, l) ∧ Le (St.ofG [(0, tupOf xs)] bs o y) (St.ofG [(0, r)] bxs' o y) := rfl
theorem vretB_normal (P : Program) (rs : List ResultVar) (r : PV) (bxs' : List (Nat × Box)) (vs : List (Nat × PV)) (bs : List (Nat × Box)) (o : List (List PV)) (y : Option (Nat × Nat)) : vretB P rs r bxs' .normal (St.ofG vs bs o y) =
    ∃ xs l, resCells P (St.ofG vs bs o y) rs (lkp bs) = some (xs, l) ∧ Le (St.ofG [(0, tupOf xs)] bs o y) (St.ofG [(0, r)] bxs' o y) := rfl
/-- What a function that is lent boxes hands back, worked out. -/
def backB (x : Option (List PV × Acc)) (bs : List (Nat × Box)) (o : List (List PV)) (y : Option (Nat × Nat)) (r : PV) (bxs' : List (Nat × Box)) : Prop := match x with
  | some (xs, _) => Le (St.ofG [(0, tupOf xs)] bs o y) (St.ofG [(0, r)] bxs' o y)
  | none => False
theorem backB_some (xs : List PV) (l : Acc) (bs : List (Nat × Box)) (o : List (List PV)) (y : Option (Nat × Nat)) (r : PV) (bxs' : List (Nat × Box)) : backB (some (xs, l)) bs o y r bxs' = Le (St.ofG [(0, tupOf xs)] bs o y) (St.ofG [(0, r)] bxs' o y) := rfl
theorem vretB_back {P : Program} {rs : List ResultVar} {r : PV} {bxs' : List (Nat × Box)} {vs : List (Nat × PV)} {bs : List (Nat × Box)} {o : List (List PV)} {y : Option (Nat × Nat)} {e : Exit} (he : e = .ret ∨ e = .normal)
    (h : backB (resCells P (St.ofG vs bs o y) rs (lkp bs)) bs o y r bxs') : vretB P rs r bxs' e (St.ofG vs bs o y) := by
  unfold backB at h
  split at h
  · rename_i xs l hx
    rcases he with rfl | rfl
    · exact ⟨xs, l, hx, h⟩
    · exact ⟨xs, l, hx, h⟩
  · exact h.elim

theorem sound_go {P : Program} {tb : Tab} {f : FuncId} {fn : Func} {c : Code} {args : List PV} {r : PV} (nt : Nat) (rs : List ResultVar) (ks : List Nat) (hm : P.follows .mixedOrders = true) (hf : P.funcs[f]? = some fn) (hb : fn.body = some c)
    (hc : callable P f = true) (hnt : fn.ntmps = nt) (hrs : fn.results.toList = rs) (hn : Nat.ble args.length nt = true)
    (h : go P tb nt ks [.code c] (vret P rs (· = r)) (St.of (initVars 0 args) [])) : SoundAt P f args r :=
  sound_of nt rs hf hb hc hnt hrs hn (vx_sound (tb := tb) (ks := ks) hm c _ _ (by
    simp only [go] at h
    have : (fun e s => gleave P tb nt ks [] (vret P rs (· = r)) e s) = vret P rs (· = r) := by funext e s; simp only [gleave]
    rwa [this] at h))

/-- A function that is lent boxes, as one condition. -/
theorem soundB_go {P : Program} {tb : Tab} {f : FuncId} {fn : Func} {c : Code} {args : List PV} {bxs bxs' : List (Nat × Box)} {r : PV} (nt : Nat) (rs : List ResultVar) (ks : List Nat) (hm : P.follows .mixedOrders = true) (hf : P.funcs[f]? = some fn) (hb : fn.body = some c)
    (hc : callable P f = true) (hnt : fn.ntmps = nt) (hrs : fn.results.toList = rs) (hn : Nat.ble args.length nt = true) (hL : (bxs.all fun p => Nat.ble LENT p.1) = true)
    (h : go P tb nt ks [.code c] (vretB P rs r bxs') (St.of (initVars 0 args) bxs)) : SoundB P f args bxs r bxs' :=
  soundB_of nt rs hf hb hc hnt hrs hn hL (vx_sound (tb := tb) (ks := ks) hm c _ _ (by
    simp only [go] at h
    have : (fun e s => gleave P tb nt ks [] (vretB P rs r bxs') e s) = vretB P rs r bxs' := by funext e s; simp only [gleave]
    rwa [this] at h))

/-- A loop, as one condition. -/
theorem g_loop {P : Program} {tb : Tab} {nt : Nat} {ks : List Nat} {k : List It} {Q : Exit → St → Prop} {st : St} {α : Type} (hm : P.follows .mixedOrders = true) (I : α → St) (μ : α → Nat) {c : Code} (x0 : α) (h0 : Le st (I x0))
    (round : ∀ x, go P tb nt ks (.code c :: .again (fun s => ∃ y, μ y < μ x ∧ Le s (I y)) :: k) Q (I x)) : go P tb nt ks (.code (.loop c) :: k) Q st := by
  simp only [go, vx]
  refine vwp_loop I μ x0 h0 fun x => vwp_mono (vx_sound (tb := tb) (ks := ks) hm c _ _ (by have := round x; simpa only [go] using this)) ?_
  intro e s h
  cases e <;> simpa only [gleave, vthen] using h

end Go.Vl
