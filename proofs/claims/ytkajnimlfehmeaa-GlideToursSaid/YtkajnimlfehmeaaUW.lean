/-
  Equality of structs: the rows of the walk.
-/
import Derived.Test.YtkajnimlfehmeaaUV
set_option linter.unusedSimpArgs false
set_option linter.unusedVariables false
namespace Go.Vl
open Go.RowKit
theorem b_agge (P : Program) (t : TypeId) (xs ys : List PV) : binPV .eql t P (.agg xs) (.agg ys) = match eqShapeS P t with
    | some sh => match eqCells sh xs ys with
      | some b => some (.bool b)
      | none => none
    | none => none := by
  unfold binPV
  cases eqShapeS P t with
  | none => rfl
  | some sh => simp only; cases eqCells sh xs ys <;> rfl
theorem b_aggn (P : Program) (t : TypeId) (xs ys : List PV) : binPV .neq t P (.agg xs) (.agg ys) = match eqShapeS P t with
    | some sh => match eqCells sh xs ys with
      | some b => some (.bool !b)
      | none => none
    | none => none := by
  unfold binPV
  cases eqShapeS P t with
  | none => rfl
  | some sh => simp only; cases eqCells sh xs ys <;> rfl
attribute [go_sem] b_agge b_aggn
end Go.Vl
