/-
  The examples of the chapter (glide): run by the kernel.
-/
import Derived.Test.YtkajnimlfehmeaaGG2
set_option linter.unusedSimpArgs false
set_option linter.unusedVariables false
namespace Go.Proofs.Ytkajnimlfehmeaa
open Go.Vl
def glideTable (f : FuncId) (args : List PV) : Option PV :=
  match args with
  | [.agg [.int .i64 ax, .int .i64 ay, .int .i64 az], .agg [.int .i64 bx, .int .i64 by_, .int .i64 bz], .int .i64 t, .int .i64 u] =>
    if f = 7 then some (.tup [pathPV (flyP ax ay az bx by_ bz t u 2).1, .int .i64 (flyP ax ay az bx by_ bz t u 2).2])
    else if f = 8 then some (.tup [pathPV (flyP ax ay az bx by_ bz t u 1).1, .int .i64 (flyP ax ay az bx by_ bz t u 1).2]) else none
  | [.agg [.int .i64 ax, .int .i64 ay, .int .i64 az], .int .i64 t, .int .i64 u] =>
    if f = 9 then some (.tup [pathPV (flyP ax ay az ax ay az t u 0).1, .int .i64 (flyP ax ay az ax ay az t u 0).2]) else none
  | [.agg [.int .i64 ax, .int .i64 ay, .int .i64 az], .agg [.int .i64 bx, .int .i64 by_, .int .i64 bz], .int .i64 r, .int .i64 t, .int .i64 u] =>
    if f = 16 then some (.tup [pathPV (arcP ax ay az bx by_ bz r t u).1, .int .i64 (arcP ax ay az bx by_ bz r t u).2]) else none
  | [.agg [.int .i64 ax, .int .i64 ay, .int .i64 az], .agg [.int .i64 bx, .int .i64 by_, .int .i64 bz], .agg [.int .i64 s, .int .i64 c]] =>
    if f = 18 then
      if ax = 0 ∧ ay = 0 ∧ az = 0 ∧ bx = 1000 ∧ by_ = 0 ∧ bz = 0 ∧ s = 500 ∧ c = 10000 then some (.tup [.int .i64 3750, .int .i64 0])
      else if ax = 1 ∧ ay = 2 ∧ az = 3 ∧ bx = 1 ∧ by_ = 2 ∧ bz = 3 ∧ s = 500 ∧ c = 10000 then some (.tup [.int .i64 1, .int .i64 0]) else none
    else none
  | _ => none
theorem glideTable_sound (f : FuncId) (args : List PV) (r : PV) (h : glideTable f args = some r) : SoundAt Try.prog f args r := by
  unfold glideTable at h
  split at h
  · split at h
    · rename_i e; cases h; subst e; exact Glide_v _ _ _ _ _ _ _ _
    · split at h
      · rename_i e; cases h; subst e; exact Line_v _ _ _ _ _ _ _ _
      · cases h
  · split at h
    · rename_i e; cases h; subst e; exact Hover_v _ _ _ _ _
    · cases h
  · split at h
    · rename_i e; cases h; subst e; exact Arc_v _ _ _ _ _ _ _ _ _
    · cases h
  · split at h
    · rename_i e
      split at h
      · rename_i e2; cases h; subst e
        obtain ⟨rfl, rfl, rfl, rfl, rfl, rfl, rfl, rfl⟩ := e2
        exact sound_run mixed _ _ time_a
      · split at h
        · rename_i e2; cases h; subst e
          obtain ⟨rfl, rfl, rfl, rfl, rfl, rfl, rfl, rfl⟩ := e2
          exact sound_run mixed _ _ time_b
        · cases h
    · cases h
  · cases h
theorem known_v : SoundAt Try.prog 12 [] (.bool true) := evF_sound mixed glideTable_sound 1000 10 _ _ _ (by kernel_rfl)
end Go.Proofs.Ytkajnimlfehmeaa
