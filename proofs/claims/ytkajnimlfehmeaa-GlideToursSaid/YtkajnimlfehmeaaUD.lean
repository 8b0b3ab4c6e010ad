/-
  The operations do in the world what they do to values: reading.
-/
import Derived.Test.YtkajnimlfehmeaaUC
set_option linter.unusedSimpArgs false
set_option linter.unusedVariables false
namespace Go.Vl
open Go.RowKit

theorem M.bind_some {α β : Type} {m : M α} {f : α → M β} {bx : Bx} {c : β} {l : Acc} (h : M.bind m f bx = some (c, l)) :
    ∃ a l1 l2, m bx = some (a, l1) ∧ f a bx = some (c, l2) ∧ l = l1 ++ l2 := by
  unfold M.bind at h
  split at h
  · cases h
  · rename_i a l1 e1
    split at h
    · cases h
    · rename_i c' l2 e2
      cases h
      exact ⟨a, l1, l2, e1, e2, rfl⟩
theorem M.pure_some {α : Type} {a c : α} {bx : Bx} {l : Acc} (h : M.pure a bx = some (c, l)) : c = a ∧ l = [] := by
  unfold M.pure at h; cases h; exact ⟨rfl, rfl⟩
theorem M.ofOpt_some {α : Type} {x : Option α} {c : α} {bx : Bx} {l : Acc} (h : M.ofOpt x bx = some (c, l)) : x = some c ∧ l = [] := by
  unfold M.ofOpt at h; cases x <;> simp at h; obtain ⟨rfl, rfl⟩ := h; exact ⟨rfl, rfl⟩
theorem M.ok_some {c : Bool} {u : Unit} {bx : Bx} {l : Acc} (h : M.ok c bx = some (u, l)) : c = true ∧ l = [] := by
  unfold M.ok at h; cases c <;> simp at h; exact ⟨rfl, h⟩
theorem M.soft_some {b : Nat} {S : SB} {bx : Bx} {l : Acc} (h : M.soft b bx = some (S, l)) : ∃ B, bx b = some B ∧ S = B.soft ∧ l = [(b, false)] := by
  unfold M.soft at h; split at h
  · rename_i B e; cases h; exact ⟨B, e, rfl, rfl⟩
  · cases h
theorem M.hard_some {b : Nat} {x : Option Box} {bx : Bx} {l : Acc} (h : M.hard b bx = some (x, l)) : x = bx b ∧ l = [(b, true)] := by
  unfold M.hard at h; cases h; exact ⟨rfl, rfl⟩

section
variable {w : World} {im : Im} {ρ : Rho}

theorem LR.agg_inv {cs : List PV} {u : Value} (h : LR w im ρ (.agg cs) u) : ∃ vs : List Value, u = .agg vs.toArray ∧ LRL w im ρ cs vs := by
  cases h with
  | ext _ _ h => cases h with | agg _ vs h => exact ⟨vs, rfl, h.toLRL⟩
  | agg _ vs h => exact ⟨vs, rfl, h⟩
theorem LR.tup_inv {cs : List PV} {u : Value} (h : LR w im ρ (.tup cs) u) : ∃ vs : List Value, u = .tuple vs.toArray ∧ LRL w im ρ cs vs := by
  cases h with
  | ext _ _ h => cases h with | tup _ vs h => exact ⟨vs, rfl, h.toLRL⟩
  | tup _ vs h => exact ⟨vs, rfl, h⟩
theorem LR.fn_inv {f : FuncId} {first cap : List PV} {u : Value} (h : LR w im ρ (.fn f first cap) u) :
    ∃ a b : List Value, u = .func (.func f) a.toArray b.toArray ∧ LRL w im ρ first a ∧ LRL w im ρ cap b := by
  cases h with
  | ext _ _ h => cases h with | fn _ _ _ a b h1 h2 => exact ⟨a, b, rfl, h1.toLRL, h2.toLRL⟩
  | fn _ _ _ a b h1 h2 => exact ⟨a, b, rfl, h1, h2⟩
theorem LR.bp_inv {b esz i off : Nat} {u : Value} (h : LR w im ρ (.bp b esz i off) u) : ∃ g, ρ b = some (some g) ∧ u = .pointer (some ⟨g, i * esz + off, none⟩) := by
  cases h with
  | ext _ _ h => cases h
  | bp _ _ _ _ g o h ho => subst ho; exact ⟨g, h, rfl⟩
theorem LR.rp_inv {cs : List PV} {u : Value} (h : LR w im ρ (.rp cs) u) : Rep w im (.rp cs) u := by
  cases h with | ext _ _ h => exact h
theorem LR.slc_inv {cs : List PV} {u : Value} (h : LR w im ρ (.slc cs) u) : Rep w im (.slc cs) u := by
  cases h with | ext _ _ h => exact h
theorem LR.nilS_inv {u : Value} (h : LR w im ρ .nilS u) : u = .slice none 0 0 := by
  cases h with | ext _ _ h => cases h; rfl
theorem LR.int_inv {k : IntKind} {n : Int} {u : Value} (h : LR w im ρ (.int k n) u) : u = .int k n := by
  cases h with | ext _ _ h => cases h; rfl
theorem LR.yld_inv {l s : Nat} {u : Value} (h : LR w im ρ (.yld l s) u) : u = .func (.yield l) #[] #[] := by
  cases h with | ext _ _ h => cases h; rfl
theorem LR.bool_inv {b : Bool} {u : Value} (h : LR w im ρ (.bool b) u) : u = .bool b := by
  cases h with | ext _ _ h => cases h; rfl
theorem LR.str_inv {s : ByteArray} {u : Value} (h : LR w im ρ (.str s) u) : u = .string s := by
  cases h with | ext _ _ h => cases h; rfl
theorem LRL.one_inv {v : PV} {us : List Value} (h : LRL w im ρ [v] us) : ∃ u, us = [u] ∧ LR w im ρ v u := by
  cases h with | cons _ u _ us h t => cases t; exact ⟨u, rfl, h⟩
theorem LRL.cons_inv {v : PV} {vs : List PV} {us : List Value} (h : LRL w im ρ (v :: vs) us) : ∃ u us', us = u :: us' ∧ LR w im ρ v u ∧ LRL w im ρ vs us' := by
  cases h with | cons _ u _ us h t => exact ⟨u, us, rfl, h, t⟩
theorem LRL.two_inv {v v2 : PV} {us : List Value} (h : LRL w im ρ [v, v2] us) : ∃ u u2, us = [u, u2] ∧ LR w im ρ v u ∧ LR w im ρ v2 u2 := by
  obtain ⟨u, us', rfl, h1, h2⟩ := h.cons_inv
  obtain ⟨u2, rfl, h3⟩ := h2.one_inv
  exact ⟨u, u2, rfl, h1, h3⟩
theorem LRL.nil_inv {us : List Value} (h : LRL w im ρ [] us) : us = [] := by cases h; rfl
end

section
variable {P : Program} {w : World}

theorem run_isAgg' {t : TypeId} (h : (P.underlying t).isSome = true) : (isAgg t).run P w = .ok (tyAgg P t) w := by
  cases hd : P.underlying t with
  | none => rw [hd] at h; cases h
  | some d => cases d <;> simp [isAgg, run_underlying hd, tyAgg, hd]
theorem run_sizeOf' {t : TypeId} {i : TypeInfo} (h : P.info? t = some i) : (sizeOf t).run P w = .ok i.size w := by simp [sizeOf, typeInfo, h]
theorem cellsOf_info {t : TypeId} {i : TypeInfo} (h : P.info? t = some i) : P.cellsOf t = i.size := by simp [Program.cellsOf, h]

theorem tyOk_inv {t : TypeId} (h : tyOk P t = true) : (P.underlying t).isSome = true ∧ ∃ i, P.info? t = some i := by
  simp only [tyOk, Bool.and_eq_true] at h
  exact ⟨h.1, Option.isSome_iff_exists.1 h.2⟩

theorem part_sim {im : Im} {ρ : Rho} {t : TypeId} {cs : List PV} {us : List Value} {off : Nat} {v : PV} (hr : LRL w im ρ cs us) (hp : partPV P t cs off = some v) :
    ∃ u, (part t us.toArray off).run P w = .ok u w ∧ LR w im ρ v u := by
  unfold partPV at hp
  split at hp
  · rename_i hok
    obtain ⟨h1, i, h2⟩ := tyOk_inv hok
    split at hp
    · rename_i ha
      split at hp
      · rename_i hlen
        cases hp
        refine ⟨.agg ((us.drop off).take (P.cellsOf t)).toArray, ?_, .agg _ _ ((hr.drop off).take _)⟩
        simp only [part, Sem.run_bind, run_isAgg' h1, Result.andThen_ok, ha, if_true, run_sizeOf' h2, Sem.run_pure]
        congr 2
        apply Array.ext'
        rw [cellsOf_info h2]
        simp [List.extract_eq_take_drop]
      · cases hp
    · rename_i ha
      obtain ⟨u, hu, hru⟩ := hr.get off v hp
      refine ⟨u, ?_, hru⟩
      simp [part, run_isAgg' h1, ha, hu]
  · cases hp

theorem load_sim {im : Im} {ρ : Rho} {t : TypeId} {cs : List PV} {us : List Value} {g p off : Nat} {v : PV} (hr : LRL w im ρ cs us)
    (hc : ∀ j, j < us.length → w.cell? ⟨g, p + j, none⟩ = us[j]?) (hp : partPV P t cs off = some v) :
    ∃ u, (loadVar t ⟨g, p + off, none⟩).run P w = .ok u w ∧ LR w im ρ v u := by
  unfold partPV at hp
  split at hp
  · rename_i hok
    obtain ⟨h1, i, h2⟩ := tyOk_inv hok
    split at hp
    · rename_i ha
      split at hp
      · rename_i hlen
        cases hp
        have hl := hr.length
        have hn : ((us.drop off).take (P.cellsOf t)).length = i.size := by rw [← cellsOf_info h2]; simp; omega
        have hrun := run_loadCells_list (P := P) w ⟨g, p + off, none⟩ ((us.drop off).take (P.cellsOf t)) (by
          intro j u hu
          have hj : j < ((us.drop off).take (P.cellsOf t)).length := (List.getElem?_eq_some_iff.1 hu).1
          have e : (⟨g, p + off, none⟩ : Addr).add j = ⟨g, p + (off + j), none⟩ := by unfold Addr.add; split <;> simp_all; omega
          rw [e, hc _ (by simp at hj; omega), ← hu]
          simp only [List.getElem?_take, List.getElem?_drop]
          rw [if_pos (by simp at hj; omega)])
        rw [hn] at hrun
        refine ⟨.agg ((us.drop off).take (P.cellsOf t)).toArray, ?_, .agg _ _ ((hr.drop off).take _)⟩
        simp only [loadVar, Sem.run_bind, run_isAgg' h1, Result.andThen_ok, ha, if_true, run_sizeOf' h2, hrun, Sem.run_pure]
      · cases hp
    · rename_i ha
      obtain ⟨u, hu, hru⟩ := hr.get off v hp
      refine ⟨u, ?_, hru⟩
      have hj : off < us.length := (List.getElem?_eq_some_iff.1 hu).1
      simp [loadVar, run_isAgg' h1, ha, hc off hj, hu]
  · cases hp

mutual
theorem constCell_rep {im : Im} {v : Value} {x : PV} (h : constCell v = some x) : Rep w im x v := by
  unfold constCell at h
  split at h <;> try cases h
  · exact .bool _
  · exact .int _ _
  · exact .str _
  · exact .nilS
  · exact .nilF
  · rename_i f a b
    split at h
    · rename_i hab
      cases h
      obtain ⟨ha, hb⟩ := hab
      have ea : a = [].toArray := by simpa using ha
      have eb : b = [].toArray := by simpa using hb
      rw [ea, eb]
      exact .fn f [] [] [] [] .nil .nil
    · cases h
end
theorem constCells_rep {im : Im} : ∀ {vs : List Value} {xs : List PV}, constCells vs = some xs → RepL w im xs vs
  | [], xs, h => by simp [constCells] at h; subst h; exact .nil
  | v :: vs, xs, h => by
    unfold constCells at h
    split at h
    · rename_i x ys e1 e2
      cases h
      exact .cons _ _ _ _ (constCell_rep e1) (constCells_rep e2)
    · cases h
theorem constPV_rep {im : Im} {v : Value} {x : PV} (h : constPV v = some x) : Rep w im x v := by
  unfold constPV at h
  split at h
  · rename_i cs
    cases e : constCells cs.toList with
    | none => rw [e] at h; cases h
    | some xs => rw [e] at h; cases h; simpa using Rep.agg xs cs.toList (constCells_rep e)
  · rename_i cs
    split at h
    · rename_i h0
      cases h
      have : cs = [].toArray := by simpa using h0
      rw [this]
      exact .tup [] [] .nil
    · cases h
  · exact constCell_rep h

theorem ev_rep {C : Ctx} {st : St} {a : Act} {w : World} {ρ : Rho} {im : Im} (h : Rel' C st a w ρ im) {x : Operand} {v : PV} (hv : st.ev x = some v) : LR w im ρ v (a.eval x) := by
  cases x with
  | tmp t => exact h.var t v hv
  | const c => exact .ext _ _ (constPV_rep hv)
  | func f =>
    simp only [St.ev, Option.some.injEq] at hv
    subst hv
    exact .ext _ _ (.fn f [] [] [] [] .nil .nil)
  | global g => cases hv

theorem evs_rep {C : Ctx} {st : St} {a : Act} {w : World} {ρ : Rho} {im : Im} (h : Rel' C st a w ρ im) : ∀ {xs : List Operand} {vs : List PV}, st.evs xs = some vs → LRL w im ρ vs (xs.map a.eval)
  | [], vs, e => by simp [St.evs] at e; subst e; exact .nil
  | x :: xs, vs, e => by
    unfold St.evs at e
    split at e
    · cases e
    · rename_i v e1
      split at e
      · cases e
      · rename_i us e2
        cases e
        exact .cons _ _ _ _ (ev_rep h e1) (evs_rep h e2)

end
end Go.Vl
