/-
  The operations do in the world what they do to values: computing.
-/
import Derived.Test.YtkajnimlfehmeaaUD
set_option linter.unusedSimpArgs false
set_option linter.unusedVariables false
namespace Go.Vl
open Go.RowKit

section
variable {P : Program} {w : World} {im : Im} {ρ : Rho} {a : Act} {o : Oper}

theorem tyElem_inv {t e : TypeId} (h : tyElem P t = some e) : P.underlying t = some (.slice e) := by
  unfold tyElem at h; split at h
  · rename_i x hx; cases h; exact hx
  · cases h
theorem tyArr_inv {t : TypeId} {q : Nat × TypeId} (h : tyArr P t = some q) : P.underlying t = some (.array q.1 q.2) := by
  unfold tyArr at h; split at h
  · rename_i n x hx; cases h; exact hx
  · cases h
theorem tyInfo_inv {t : TypeId} {q : Nat × Nat} (h : tyInfo P t = some q) : ∃ i, P.info? t = some i ∧ i.size = q.1 ∧ i.bytes = q.2 := by
  unfold tyInfo at h
  cases hi : P.info? t with
  | none => rw [hi] at h; cases h
  | some i => rw [hi] at h; cases h; exact ⟨i, rfl, rfl, rfl⟩
theorem tyField_inv {t : TypeId} {f : Nat} {q : Nat × TypeId × Nat} (h : tyField P t f = some q) :
    ∃ fs x i, P.underlying t = some (.struct fs) ∧ fs[f]? = some x ∧ P.info? x.type = some i ∧ i.size ≠ 0 ∧ q = (x.offset, x.type, i.size) := by
  unfold tyField at h
  split at h
  · rename_i fs hfs
    split at h
    · rename_i x hx
      split at h
      · rename_i i hi
        split at h
        · cases h
        · rename_i hz; cases h; exact ⟨fs, x, i, hfs, hx, hi, hz, rfl⟩
      · cases h
    · cases h
  · cases h

/-- An operation that leaves the world as it is. -/
def Calm (P : Program) (w : World) (im : Im) (ρ : Rho) (a : Act) (o : Oper) (v : PV) : Prop :=
  ∃ u, (execOp a.eval o).run P w = .ok (.value u) w ∧ LR w im ρ v u

theorem calm_move {x : Operand} {v : PV} (ho : o.op = .move x) (hv : LR w im ρ v (a.eval x)) : Calm P w im ρ a o v := ⟨_, by simp [execOp, ho], hv⟩
theorem calm_assign {x : Operand} {v : PV} (ho : o.op = .assign x) (hv : LR w im ρ v (a.eval x)) : Calm P w im ρ a o v := ⟨_, by simp [execOp, ho], hv⟩
theorem calm_pick {c x y : Operand} {b : Bool} {v v' : PV} (ho : o.op = .pick c x y) (hc : LR w im ρ (.bool b) (a.eval c)) (hv : LR w im ρ v (a.eval x)) (hv' : LR w im ρ v' (a.eval y)) :
    Calm P w im ρ a o (if b then v else v') := by
  have e := hc.bool_inv
  cases b
  · exact ⟨a.eval y, by simp [execOp, ho, e, asBool], by simpa using hv'⟩
  · exact ⟨a.eval x, by simp [execOp, ho, e, asBool], by simpa using hv⟩
theorem calm_nilCheck_bp {x : Operand} {b esz i off : Nat} (ho : o.op = .nilCheck x) (hv : LR w im ρ (.bp b esz i off) (a.eval x)) : Calm P w im ρ a o (.bp b esz i off) := by
  obtain ⟨g, _, e⟩ := hv.bp_inv
  exact ⟨a.eval x, by simp [execOp, ho, e], hv⟩
theorem calm_nilCheck_rp {x : Operand} {cs : List PV} (ho : o.op = .nilCheck x) (hv : LR w im ρ (.rp cs) (a.eval x)) : Calm P w im ρ a o (.rp cs) := by
  obtain ⟨g, p, e⟩ : ∃ g p, a.eval x = .pointer (some ⟨g, p, none⟩) := by
    have h := hv.rp_inv
    generalize a.eval x = u at *
    cases h; exact ⟨_, _, rfl⟩
  exact ⟨a.eval x, by simp [execOp, ho, e], hv⟩
theorem calm_nilCheck_fn {x : Operand} {f : FuncId} {first cap : List PV} (ho : o.op = .nilCheck x) (hv : LR w im ρ (.fn f first cap) (a.eval x)) : Calm P w im ρ a o (.fn f first cap) := by
  obtain ⟨_, _, e, _⟩ := hv.fn_inv
  exact ⟨a.eval x, by simp [execOp, ho, e], hv⟩

theorem binInt_run {op : BinOp} {k : IntKind} {x y : Int} {v : PV} (h : binInt op k x y = some v) :
    ∃ u, (match op with
      | .add | .sub | .mul => Op.intArith op k x y
      | .quo | .rem => Op.intDiv op k x y
      | .and | .or | .xor | .andNot => Op.intBits op k x y
      | _ => Op.intCmp op x y).run P w = .ok u w ∧ Rep w im v u := by
  cases op <;> simp only [binInt, cmpInt, Option.map_some, Option.map_none, Option.some.injEq] at h <;> try (cases h; done)
  case quo => split at h <;> cases h; rename_i hy; exact ⟨_, by simp [Op.intDiv, hy], .int _ _⟩
  case rem => split at h <;> cases h; rename_i hy; exact ⟨_, by simp [Op.intDiv, hy], .int _ _⟩
  case add => subst h; exact ⟨_, by simp [Op.intArith], .int _ _⟩
  case sub => subst h; exact ⟨_, by simp [Op.intArith], .int _ _⟩
  case mul => subst h; exact ⟨_, by simp [Op.intArith], .int _ _⟩
  case and => subst h; exact ⟨_, by simp [Op.intBits], .int _ _⟩
  case or => subst h; exact ⟨_, by simp [Op.intBits], .int _ _⟩
  case xor => subst h; exact ⟨_, by simp [Op.intBits], .int _ _⟩
  case andNot => subst h; exact ⟨_, by simp [Op.intBits], .int _ _⟩
  case eql => subst h; exact ⟨_, by simp [Op.intCmp], .bool _⟩
  case neq => subst h; exact ⟨_, by simp [Op.intCmp], .bool _⟩
  case lss => subst h; exact ⟨_, by simp [Op.intCmp], .bool _⟩
  case leq => subst h; exact ⟨_, by simp [Op.intCmp], .bool _⟩
  case gtr => subst h; exact ⟨_, by simp [Op.intCmp], .bool _⟩
  case geq => subst h; exact ⟨_, by simp [Op.intCmp], .bool _⟩

theorem shiftInt_run {op : BinOp} {k yk : IntKind} {x y : Int} {v : PV} (h : shiftInt op k x y = some v) :
    ∃ u, (Op.shift op k x yk y).run P w = .ok u w ∧ Rep w im v u := by
  unfold shiftInt at h
  split at h
  · cases h
  · rename_i hy
    cases op <;> simp only [Option.some.injEq] at h <;> try (cases h; done)
    case shl => subst h; exact ⟨_, by simp [Op.shift, hy], .int _ _⟩
    case shr => subst h; exact ⟨_, by simp [Op.shift, hy], .int _ _⟩

theorem binStr_run {op : BinOp} {x y : ByteArray} {v : PV} (h : binStr op x y = some v) : ∃ u, (Op.stringOp op x y).run P w = .ok u w ∧ Rep w im v u := by
  cases op <;> simp only [binStr, Option.some.injEq] at h <;> try (cases h; done)
  case add =>
    split at h
    · cases h
    · rename_i hh; cases h; exact ⟨_, by simp only [Op.stringOp, hh, if_false]; rfl, .str _⟩
  case eql => subst h; exact ⟨_, by simp [Op.stringOp], .bool _⟩
  case neq => subst h; exact ⟨_, by simp [Op.stringOp], .bool _⟩
  case lss => subst h; exact ⟨_, by simp [Op.stringOp], .bool _⟩
  case leq => subst h; exact ⟨_, by simp [Op.stringOp], .bool _⟩
  case gtr => subst h; exact ⟨_, by simp [Op.stringOp], .bool _⟩
  case geq => subst h; exact ⟨_, by simp [Op.stringOp], .bool _⟩

theorem eqGuard_plain {op : BinOp} {t : TypeId} {x y : Operand} {p q : Value} (h1 : p.oneCell' = true) (h2 : p ≠ .nilIface) : (eqGuard op t x y p q).run P w = .ok () w := by
  cases p <;> first | (simp [Value.oneCell'] at h1; done) | exact absurd rfl h2 | (unfold eqGuard; cases op <;> cases q <;> rfl)

theorem equalIn_bool {t : TypeId} {p q : Bool} (hu : P.underlying t = some .bool) (d : Nat) : (Op.equalIn (d + 1) t (.bool p) (.bool q)).run P w = .ok (p == q) w := by
  simp [Op.equalIn, run_underlying hu]
theorem equal_bool {t : TypeId} {p q : Bool} (hu : P.underlying t = some .bool) : (Op.equal t (.bool p) (.bool q)).run P w = .ok (p == q) w := equalIn_bool hu 9999

theorem calm_bin {op : BinOp} {t ty : TypeId} {x y : Operand} {v v' r : PV} (ho : o.op = .binOp op t x y ty) (hx : LR w im ρ v (a.eval x)) (hy : LR w im ρ v' (a.eval y))
    (hr : binPV op t P v v' = some r) : Calm P w im ρ a o r := by
  unfold binPV at hr
  split at hr
  · rename_i k p k' q
    have e1 := hx.int_inv
    have e2 := hy.int_inv
    split at hr
    · obtain ⟨u, hu, hru⟩ := shiftInt_run (P := P) (w := w) (im := im) (yk := k') hr
      refine ⟨u, ?_, .ext _ _ hru⟩
      simp [execOp, ho, e1, e2, eqGuard, binOp, hu]
    · obtain ⟨u, hu, hru⟩ := shiftInt_run (P := P) (w := w) (im := im) (yk := k') hr
      refine ⟨u, ?_, .ext _ _ hru⟩
      simp [execOp, ho, e1, e2, eqGuard, binOp, hu]
    · rename_i n1 n2
      split at hr
      · rename_i hk
        subst hk
        obtain ⟨u, hu, hru⟩ := binInt_run (P := P) (w := w) (im := im) hr
        refine ⟨u, ?_, .ext _ _ hru⟩
        simp only [execOp, ho, e1, e2]
        simp only [Sem.run_bind, eqGuard_plain (P := P) (w := w) (p := .int k p) rfl (by simp), Result.andThen_ok]
        cases op <;> simp_all [binOp]
      · cases hr
  · rename_i p q
    have e1 := hx.str_inv
    have e2 := hy.str_inv
    obtain ⟨u, hu, hru⟩ := binStr_run (P := P) (w := w) (im := im) hr
    refine ⟨u, ?_, .ext _ _ hru⟩
    simp only [execOp, ho, e1, e2, Sem.run_bind, eqGuard_plain (P := P) (w := w) (p := .string p) rfl (by simp), Result.andThen_ok]
    cases op <;> simp_all [binOp]
  · rename_i p q
    have e1 := hx.bool_inv
    have e2 := hy.bool_inv
    split at hr
    · rename_i hu; cases hr
      refine ⟨.bool (p == q), ?_, .ext _ _ (.bool _)⟩
      simp only [execOp, ho, e1, e2, Sem.run_bind, eqGuard_plain (P := P) (w := w) (p := .bool p) rfl (by simp), Result.andThen_ok]
      simp [binOp, equal_bool hu]
    · rename_i hu; cases hr
      refine ⟨.bool !(p == q), ?_, .ext _ _ (.bool _)⟩
      simp only [execOp, ho, e1, e2, Sem.run_bind, eqGuard_plain (P := P) (w := w) (p := .bool p) rfl (by simp), Result.andThen_ok]
      simp [binOp, equal_bool hu]
    · cases hr
  · rename_i xs ys
    obtain ⟨us, e1, h1⟩ := hx.agg_inv
    obtain ⟨vs, e2, h2⟩ := hy.agg_inv
    split at hr
    case h_2 => cases hr
    rename_i sh hsh0
    unfold eqShapeS at hsh0
    split at hsh0
    · cases hsh0
    rename_i hg
    have hg : P.eqGuardType P.depth t = false := by simpa using hg
    split at hsh0
    case h_2 => cases hsh0
    rename_i fs0 hfs0
    have hsh := hsh0
    have hst : ∀ b, eqCells sh xs ys = some b → (∃ fs, P.underlying t = some (.struct fs)) → (Op.equal t (.agg us.toArray) (.agg vs.toArray)).run P w = .ok b w := by
      rintro b hb ⟨fs, hfs⟩
      exact equalIn_cells Op.maxDepth t sh xs ys us vs _ _ b hsh hb h1 h2 (fun _ => ⟨rfl, rfl⟩) (fun hh => by rw [hfs] at hh; cases hh)
    have hfs : ∀ b, eqCells sh xs ys = some b → ∃ fs, P.underlying t = some (.struct fs) := fun _ _ => ⟨_, hfs0⟩
    have hgd : ∀ x y, (eqGuard op t x y (.agg us.toArray) (.agg vs.toArray)).run P w = .ok () w := by
      intro x y
      cases op <;> simp [eqGuard, hg]
    split at hr <;> cases hr
    · rename_i b hb
      refine ⟨.bool b, ?_, .ext _ _ (.bool _)⟩
      simp only [execOp, ho, e1, e2, Sem.run_bind, hgd, Result.andThen_ok]
      simp [binOp, hst b hb (hfs b hb)]
    · rename_i b hb
      refine ⟨.bool !b, ?_, .ext _ _ (.bool _)⟩
      simp only [execOp, ho, e1, e2, Sem.run_bind, hgd, Result.andThen_ok]
      simp [binOp, hst b hb (hfs b hb)]
  · cases hr

theorem calm_un {op : UnOp} {t : TypeId} {x : Operand} {v r : PV} (ho : o.op = .unOp op t x) (hx : LR w im ρ v (a.eval x)) (hr : unPV op v = some r) : Calm P w im ρ a o r := by
  unfold unPV at hr
  split at hr <;> try (cases hr; done)
  · cases hr; exact ⟨_, by simp [execOp, ho, hx.int_inv, Op.unary, Op.intArith], .ext _ _ (.int _ _)⟩
  · cases hr; exact ⟨_, by simp [execOp, ho, hx.int_inv, Op.unary, Op.intBits], .ext _ _ (.int _ _)⟩
  · cases hr; exact ⟨_, by simp [execOp, ho, hx.bool_inv, Op.unary], .ext _ _ (.bool _)⟩

theorem calm_conv {s d : TypeId} {x : Operand} {v r : PV} (ho : o.op = .convert s d x) (hx : LR w im ρ v (a.eval x)) (hr : convPV P s d v = some r) : Calm P w im ρ a o r := by
  unfold convPV at hr
  split at hr <;> try (cases hr; done)
  rename_i k1 k2 k n h1 h2
  cases hr
  refine ⟨_, ?_, .ext _ _ (.int _ _)⟩
  simp [execOp, ho, hx.int_inv, convert, run_underlying h1, run_underlying h2, Conv.intToInt]

theorem calm_makeFunc {f : FuncId} {first cap : Array Operand} {vs : List PV} (ho : o.op = .makeFunc (.func f) first cap) (hx : LRL w im ρ vs ((first ++ cap).toList.map a.eval)) :
    Calm P w im ρ a o (.fn f (vs.take first.size) (vs.drop first.size)) := by
  refine ⟨.func (.func f) (first.toList.map a.eval).toArray (cap.toList.map a.eval).toArray, ?_, ?_⟩
  · simp [execOp, ho, Instr.makeFunc]
    constructor <;> (apply Array.ext'; simp)
  · have h1 := hx.take first.size
    have h2 := hx.drop first.size
    have e1 : ((first ++ cap).toList.map a.eval).take first.size = first.toList.map a.eval := by simp
    have e2 : ((first ++ cap).toList.map a.eval).drop first.size = cap.toList.map a.eval := by simp
    rw [e1] at h1
    rw [e2] at h2
    exact .fn f _ _ _ _ h1 h2

theorem calm_extract {x : Operand} {i : Nat} {vs : List PV} {v : PV} (ho : o.op = .extract x i) (hx : LR w im ρ (.tup vs) (a.eval x)) (hv : vs[i]? = some v) : Calm P w im ρ a o v := by
  obtain ⟨us, e, hr⟩ := hx.tup_inv
  obtain ⟨u, hu, hru⟩ := hr.get i v hv
  exact ⟨u, by simp [execOp, ho, e, Instr.extract, hu], hru⟩

theorem calm_field {t : TypeId} {x : Operand} {f : Nat} {cs : List PV} {q : Nat × TypeId × Nat} {v : PV} (ho : o.op = .field t x f) (hx : LR w im ρ (.agg cs) (a.eval x)) (hq : tyField P t f = some q)
    (hv : partPV P q.2.1 cs q.1 = some v) : Calm P w im ρ a o v := by
  obtain ⟨us, e, hr⟩ := hx.agg_inv
  obtain ⟨fs, fx, i, h1, h2, h3, h4, rfl⟩ := tyField_inv hq
  obtain ⟨u, hu, hru⟩ := part_sim (P := P) (w := w) hr hv
  exact ⟨u, by simp [execOp, ho, e, Instr.field, run_underlying h1, h2, asAgg, hu], hru⟩

theorem addr_add (g p n : Nat) : (⟨g, p, none⟩ : Addr).add n = ⟨g, p + n, none⟩ := by unfold Addr.add; split <;> simp_all

theorem rp_drop {cs : List PV} {g p : Nat} {n : Nat} (h : Rep w im (.rp cs) (.pointer (some ⟨g, p, none⟩))) : Rep w im (.rp (cs.drop n)) (.pointer (some ⟨g, p + n, none⟩)) := by
  cases h with
  | rp _ _ _ vs hi hc hr =>
    refine .rp _ _ _ (vs.drop n) ?_ ?_ (hr.drop n)
    · intro j hj
      have := hi (n + j) (by simp at hj; omega)
      rwa [← Nat.add_assoc] at this
    · intro j hj
      have := hc (n + j) (by simp at hj; omega)
      rw [← Nat.add_assoc] at this
      rw [this, List.getElem?_drop]

theorem rp_addr {cs : List PV} {u : Value} (h : Rep w im (.rp cs) u) : ∃ g p, u = .pointer (some ⟨g, p, none⟩) := by cases h; exact ⟨_, _, rfl⟩

theorem run_fieldAt {t : TypeId} {f g p : Nat} {q : Nat × TypeId × Nat} (hq : tyField P t f = some q) :
    (Instr.fieldAt t (.pointer (some ⟨g, p, none⟩)) f).run P w = .ok (.pointer (some ⟨g, p + q.1, none⟩)) w := by
  obtain ⟨fs, fx, i, h1, h2, h3, h4, rfl⟩ := tyField_inv hq
  simp [Instr.fieldAt, run_underlying h1, h2, Instr.sureAddr, fieldPlace, run_sizeOf' h3, h4, addr_add]

theorem calm_fieldAddr_bp {t : TypeId} {x : Operand} {f b esz i off : Nat} {q : Nat × TypeId × Nat} (ho : o.op = .fieldAddr t x f) (hx : LR w im ρ (.bp b esz i off) (a.eval x)) (hq : tyField P t f = some q) :
    Calm P w im ρ a o (.bp b esz i (off + q.1)) := by
  obtain ⟨g, hg, e⟩ := hx.bp_inv
  exact ⟨.pointer (some ⟨g, i * esz + off + q.1, none⟩), by simp [execOp, ho, e, run_fieldAt hq], .bp _ _ _ _ g _ hg (by omega)⟩
theorem calm_fieldAddr_rp {t : TypeId} {x : Operand} {f : Nat} {cs : List PV} {q : Nat × TypeId × Nat} (ho : o.op = .fieldAddr t x f) (hx : LR w im ρ (.rp cs) (a.eval x)) (hq : tyField P t f = some q) :
    Calm P w im ρ a o (.rp (cs.drop q.1)) := by
  have hr := hx.rp_inv
  obtain ⟨g, p, e⟩ := rp_addr hr
  rw [e] at hr
  exact ⟨_, by simp [execOp, ho, e, run_fieldAt hq], .ext _ _ (rp_drop hr)⟩

theorem run_indexAt_arr {t e : TypeId} {n : Nat} {j : TypeInfo} {k : IntKind} {i : Int} {g p : Nat} (ht : P.underlying t = some (.array n e)) (hj : P.info? e = some j) (h0 : 0 ≤ i) (h1 : i < n) :
    (Instr.indexAt t (.pointer (some ⟨g, p, none⟩)) (.int k i)).run P w = .ok (.pointer (some ⟨g, p + i.toNat * j.size, none⟩)) w := by
  simp [Instr.indexAt, asIntOf, run_underlying ht, Instr.sureAddr, h0, h1, run_sizeOf' hj, addr_add]
theorem run_indexAt_slice {t e : TypeId} {n c : Nat} {j : TypeInfo} {k : IntKind} {i : Int} {g p : Nat} (ht : P.underlying t = some (.slice e)) (hj : P.info? e = some j) (h0 : 0 ≤ i) (h1 : i < n) :
    (Instr.indexAt t (.slice (some ⟨g, p, none⟩) n c) (.int k i)).run P w = .ok (.pointer (some ⟨g, p + i.toNat * j.size, none⟩)) w := by
  simp [Instr.indexAt, asIntOf, run_underlying ht, h0, h1, run_sizeOf' hj, addr_add]

theorem calm_indexAddr_bp {t : TypeId} {x y : Operand} {b esz k off : Nat} {ik : IntKind} {i : Int} {q : Nat × TypeId} {s : Nat × Nat} (ho : o.op = .indexAddr t x y) (hx : LR w im ρ (.bp b esz k off) (a.eval x))
    (hy : LR w im ρ (.int ik i) (a.eval y)) (hq : tyArr P t = some q) (hs : tyInfo P q.2 = some s) (h0 : 0 ≤ i) (h1 : i < q.1) : Calm P w im ρ a o (.bp b esz k (off + i.toNat * s.1)) := by
  obtain ⟨g, hg, e⟩ := hx.bp_inv
  obtain ⟨j, hj, hj1, _⟩ := tyInfo_inv hs
  refine ⟨_, ?_, .bp _ _ _ _ g _ hg rfl⟩
  simp [execOp, ho, e, hy.int_inv, run_indexAt_arr (tyArr_inv hq) hj h0 h1, hj1, Nat.add_assoc]
theorem calm_indexAddr_rp {t : TypeId} {x y : Operand} {cs : List PV} {ik : IntKind} {i : Int} {q : Nat × TypeId} {s : Nat × Nat} (ho : o.op = .indexAddr t x y) (hx : LR w im ρ (.rp cs) (a.eval x))
    (hy : LR w im ρ (.int ik i) (a.eval y)) (hq : tyArr P t = some q) (hs : tyInfo P q.2 = some s) (h0 : 0 ≤ i) (h1 : i < q.1) : Calm P w im ρ a o (.rp (cs.drop (i.toNat * s.1))) := by
  have hr := hx.rp_inv
  obtain ⟨g, p, e⟩ := rp_addr hr
  rw [e] at hr
  obtain ⟨j, hj, hj1, _⟩ := tyInfo_inv hs
  refine ⟨_, ?_, .ext _ _ (rp_drop hr)⟩
  simp [execOp, ho, e, hy.int_inv, run_indexAt_arr (tyArr_inv hq) hj h0 h1, hj1]
theorem calm_indexAddr_bs {t : TypeId} {x y : Operand} {b esz off len : Nat} {ik : IntKind} {i : Int} {E : TypeId} {s : Nat × Nat} (ho : o.op = .indexAddr t x y) (hx : LR w im ρ (.bs b esz off len) (a.eval x))
    (hy : LR w im ρ (.int ik i) (a.eval y)) (hq : tyElem P t = some E) (hs : tyInfo P E = some s) (hse : s.1 = esz) (h0 : 0 ≤ i) (h1 : i < len) : Calm P w im ρ a o (.bp b esz (off + i.toNat) 0) := by
  obtain ⟨j, hj, hj1, _⟩ := tyInfo_inv hs
  rcases hx.bs_inv with ⟨_, _, _, h⟩ | ⟨g, cap, cur, e', hg, e, _, _, _, _⟩
  · omega
  · refine ⟨_, ?_, .bp _ _ _ _ g _ hg rfl⟩
    simp [execOp, ho, e, hy.int_inv, run_indexAt_slice (tyElem_inv hq) hj h0 h1, hj1, hse, Nat.add_mul]
theorem calm_indexAddr_slc {t : TypeId} {x y : Operand} {es : List PV} {ik : IntKind} {i : Int} {E : TypeId} {s : Nat × Nat} {el : PV} (ho : o.op = .indexAddr t x y) (hx : LR w im ρ (.slc es) (a.eval x))
    (hy : LR w im ρ (.int ik i) (a.eval y)) (hq : tyElem P t = some E) (hs : tyInfo P E = some s) (h0 : 0 ≤ i) (hel : es[i.toNat]? = some el) (hz : el.cells.length = s.1) : Calm P w im ρ a o (.rp el.cells) := by
  obtain ⟨j, hj, hj1, _⟩ := tyInfo_inv hs
  have hr := hx.slc_inv
  have hlt : i.toNat < es.length := (List.getElem?_eq_some_iff.1 hel).1
  generalize hu : a.eval x = u at *
  cases hr with
  | slcNil c hm => simp at hlt
  | slcE p cap hm => simp at hlt
  | slc _ g off len cap sz vs hn hm hzz hi hc hrl hcap =>
    have hsz : sz = s.1 := by rw [← hz]; exact (hzz el (List.mem_of_getElem? hel)).symm
    subst hsz
    have hfl := flat_length hzz
    have hvl := hrl.length
    have hmul : i.toNat * s.1 + s.1 ≤ es.length * s.1 := by rw [← Nat.succ_mul]; exact Nat.mul_le_mul_right _ hlt
    refine ⟨.pointer (some ⟨g, off + i.toNat * s.1, none⟩), ?_, .ext _ _ ?_⟩
    · simp [execOp, ho, hu, hy.int_inv, run_indexAt_slice (w := w) (P := P) (c := cap) (g := g) (p := off) (k := ik) (tyElem_inv hq) hj h0 (show i < len by omega), hj1]
    · have hcut : ((es.flatMap PV.cells).drop (i.toNat * s.1)).take s.1 = el.cells := by
        apply List.ext_getElem?
        intro j
        simp only [List.getElem?_take, List.getElem?_drop]
        split
        · rename_i hj; exact flat_get hzz hel hj
        · rw [List.getElem?_eq_none]; omega
      have h2 := (hrl.drop (i.toNat * s.1)).take s.1
      rw [hcut] at h2
      refine .rp _ _ _ _ ?_ ?_ h2
      · intro j hj
        have := hi (i.toNat * s.1 + j) (by simp at hj; omega)
        rwa [← Nat.add_assoc] at this
      · intro j hj
        have := hc (i.toNat * s.1 + j) (by simp at hj; omega)
        rw [← Nat.add_assoc] at this
        rw [this]
        simp only [List.getElem?_take, List.getElem?_drop]
        rw [if_pos (by simp at hj; omega)]

theorem calm_index_agg {t : TypeId} {x y : Operand} {cs : List PV} {ik : IntKind} {i : Int} {q : Nat × TypeId} {s : Nat × Nat} {v : PV} (ho : o.op = .index t x y) (hx : LR w im ρ (.agg cs) (a.eval x))
    (hy : LR w im ρ (.int ik i) (a.eval y)) (hq : tyArr P t = some q) (hs : tyInfo P q.2 = some s) (h0 : 0 ≤ i) (h1 : i < q.1) (hv : partPV P q.2 cs (i.toNat * s.1) = some v) : Calm P w im ρ a o v := by
  obtain ⟨us, e, hr⟩ := hx.agg_inv
  obtain ⟨j, hj, hj1, _⟩ := tyInfo_inv hs
  obtain ⟨u, hu, hru⟩ := part_sim (P := P) (w := w) hr hv
  refine ⟨u, ?_, hru⟩
  simp [execOp, ho, e, hy.int_inv, Instr.index, asIntOf, run_underlying (tyArr_inv hq), h0, h1, run_sizeOf' hj, hj1, hu]
theorem calm_index_str {t : TypeId} {x y : Operand} {s : ByteArray} {ik : IntKind} {i : Int} {c : UInt8} (ho : o.op = .index t x y) (hx : LR w im ρ (.str s) (a.eval x))
    (hy : LR w im ρ (.int ik i) (a.eval y)) (ht : P.underlying t = some .string) (h0 : 0 ≤ i) (hc : s[i.toNat]? = some c) : Calm P w im ρ a o (.int .u8 c.toNat) := by
  refine ⟨_, ?_, .ext _ _ (.int _ _)⟩
  simp [execOp, ho, hx.str_inv, hy.int_inv, Instr.index, asIntOf, run_underlying ht, h0, hc]

theorem run_minMax (mx : Bool) : ∀ (vs : List PV) (us : List Value) (x v : PV) (u : Value), LRL w im ρ vs us → LR w im ρ x u → minMax mx x vs = some v →
    ∃ u', (us.foldlM (if mx then Builtin.max2 else Builtin.min2) u).run P w = .ok u' w ∧ LR w im ρ v u'
  | [], us, x, v, u, h, hx, e => by
    cases h.nil_inv
    have : v = x := by cases x <;> (simp [minMax] at e; exact e.symm)
    subst this
    exact ⟨u, by simp, hx⟩
  | y :: vs, us, x, v, u, h, hx, e => by
    obtain ⟨uy, us', rfl, hy, ht⟩ := h.cons_inv
    unfold minMax at e
    split at e <;> try (cases e; done)
    · rename_i heq; cases heq
    · rename_i k p k' q rest heq
      cases heq
      split at e
      · rename_i hk
        subst hk
        have e1 := hx.int_inv
        have e2 := hy.int_inv
        subst e1; subst e2
        obtain ⟨u', h1, h2⟩ := run_minMax mx _ us' _ v _ ht (.ext _ _ (.int k _)) e
        refine ⟨u', ?_, h2⟩
        cases mx <;> simpa [Builtin.max2, Builtin.min2] using h1
      · cases e

end
end Go.Vl
