/-
  An operation sees only what it names.
-/
import Derived.Test.YtkajnimlfehmeaaUK
set_option linter.unusedSimpArgs false
set_option linter.unusedVariables false
namespace Go.Vl

def AgreeAcc (l : Acc) (bx bx' : Bx) : Prop := ∀ p ∈ l, if p.2 then bx p.1 = bx' p.1 else (bx p.1).map Box.soft = (bx' p.1).map Box.soft

theorem AgreeAcc.append {l l' : Acc} {bx bx' : Bx} (h : AgreeAcc (l ++ l') bx bx') : AgreeAcc l bx bx' ∧ AgreeAcc l' bx bx' :=
  ⟨fun p hp => h p (List.mem_append_left _ hp), fun p hp => h p (List.mem_append_right _ hp)⟩

def Framed {α : Type} (m : M α) : Prop := ∀ (bx bx' : Bx) (x : α) (l : Acc), m bx = some (x, l) → AgreeAcc l bx bx' → m bx' = some (x, l)

theorem Framed.pure {α : Type} (a : α) : Framed (M.pure a) := fun _ _ _ _ h _ => h
theorem Framed.fail {α : Type} : Framed (M.fail : M α) := fun _ _ _ _ h _ => by cases h
theorem Framed.ofOpt {α : Type} (x : Option α) : Framed (M.ofOpt x) := fun _ _ _ _ h _ => h
theorem Framed.ok (c : Bool) : Framed (M.ok c) := fun _ _ _ _ h _ => h
theorem Framed.soft (b : Nat) : Framed (M.soft b) := by
  intro bx bx' x l h ha
  obtain ⟨B, hB, rfl, rfl⟩ := M.soft_some h
  have := ha (b, false) (by simp)
  simp only [Bool.false_eq_true, if_false, hB] at this
  unfold M.soft
  cases hb : bx' b with
  | none => rw [hb] at this; cases this
  | some B' => rw [hb] at this; simp at this; simp [this]
theorem Framed.hard (b : Nat) : Framed (M.hard b) := by
  intro bx bx' x l h ha
  obtain ⟨rfl, rfl⟩ := M.hard_some h
  have := ha (b, true) (by simp)
  simp only [if_true] at this
  simp [M.hard, this]
theorem Framed.bind {α β : Type} {m : M α} {f : α → M β} (h : Framed m) (k : ∀ a, Framed (f a)) : Framed (M.bind m f) := by
  intro bx bx' x l e ha
  obtain ⟨a, l1, l2, e1, e2, rfl⟩ := M.bind_some e
  obtain ⟨a1, a2⟩ := ha.append
  simp [M.bind, h bx bx' a l1 e1 a1, k a bx bx' x l2 e2 a2]

theorem esc0_framed (v : PV) : Framed (esc0 v) := by
  unfold esc0
  split <;> repeat (first | exact Framed.pure _ | exact Framed.fail | exact Framed.soft _ | exact Framed.ok _ | (refine Framed.bind ?_ fun _ => ?_))
theorem escL_framed : ∀ vs : List PV, Framed (escL vs)
  | [] => Framed.pure _
  | v :: vs => Framed.bind (esc0_framed v) fun _ => Framed.bind (escL_framed vs) fun _ => Framed.pure _
theorem escC_framed (v : PV) : Framed (escC v) := by
  unfold escC
  split <;> repeat (first | exact Framed.pure _ | exact Framed.fail | exact Framed.soft _ | exact Framed.ok _ | exact Framed.ofOpt _ | exact escL_framed _ | exact esc0_framed _ | (refine Framed.bind ?_ fun _ => ?_))
theorem escCL_framed : ∀ vs : List PV, Framed (escCL vs)
  | [] => Framed.pure _
  | v :: vs => Framed.bind (escC_framed v) fun _ => Framed.bind (escCL_framed vs) fun _ => Framed.pure _
theorem esc1_framed (v : PV) : Framed (esc1 v) := by
  unfold esc1
  split <;> repeat (first | exact Framed.pure _ | exact Framed.fail | exact escL_framed _ | exact escCL_framed _ | exact escC_framed _ | (refine Framed.bind ?_ fun _ => ?_))
theorem esc1L_framed : ∀ vs : List PV, Framed (esc1L vs)
  | [] => Framed.pure _
  | v :: vs => Framed.bind (esc1_framed v) fun _ => Framed.bind (esc1L_framed vs) fun _ => Framed.pure _
theorem convM_framed (P : Program) (s d : TypeId) (x : PV) : Framed (convM P s d x) := by
  unfold convM
  cases convPV P s d x with
  | some v => exact Framed.pure _
  | none =>
    refine Framed.bind (Framed.ok _) fun _ => Framed.bind (esc0_framed _) fun y => ?_
    cases y.1 <;> first | exact Framed.fail | (refine Framed.bind (Framed.ofOpt _) fun _ => ?_; exact Framed.pure _)
theorem copyPV_framed (P : Program) (t : TypeId) (d x : PV) : Framed (copyPV P t d x) := by
  unfold copyPV
  refine Framed.bind (Framed.ofOpt _) fun _ => Framed.bind (Framed.ofOpt _) fun _ => Framed.bind (esc0_framed _) fun y => ?_
  cases y.1 <;> first | exact Framed.fail | skip
  cases d <;> first | exact Framed.fail | skip
  refine Framed.bind (Framed.hard _) fun _ => Framed.bind (Framed.ofOpt _) fun _ => Framed.bind (Framed.ok _) fun _ => Framed.bind (Framed.ok _) fun _ => Framed.pure _
theorem clearPV_framed (P : Program) (t : TypeId) (d : PV) : Framed (clearPV P t d) := by
  unfold clearPV
  refine Framed.bind (Framed.ofOpt _) fun _ => Framed.bind (Framed.ofOpt _) fun _ => Framed.bind (Framed.ofOpt _) fun y => ?_
  cases d <;> first | exact Framed.fail | skip
  refine Framed.bind (Framed.hard _) fun _ => Framed.bind (Framed.ofOpt _) fun _ => Framed.bind (Framed.ok _) fun _ => Framed.bind (Framed.ok _) fun _ => Framed.pure _
theorem lend1_framed (θ : List (Nat × Nat)) (v : PV) : Framed (lend1 θ v) := by
  unfold lend1
  split
  · split <;> first | exact Framed.pure _ | exact esc1_framed _
  · split <;> first | exact Framed.pure _ | exact esc1_framed _
  · exact esc1_framed _
theorem lendL_framed (θ : List (Nat × Nat)) : ∀ vs : List PV, Framed (lendL θ vs)
  | [] => Framed.pure _
  | v :: vs => Framed.bind (lend1_framed θ v) fun _ => Framed.bind (lendL_framed θ vs) fun _ => Framed.pure _
theorem lentBoxes_framed : ∀ θ : List (Nat × Nat), Framed (lentBoxes θ)
  | [] => Framed.pure _
  | _ :: θ => Framed.bind (Framed.hard _) fun _ => Framed.bind (Framed.ofOpt _) fun _ => Framed.bind (Framed.ok _) fun _ => Framed.bind (lentBoxes_framed θ) fun _ => Framed.pure _
theorem freeIds_framed : ∀ ν : List (Nat × Nat), Framed (freeIds ν)
  | [] => Framed.pure _
  | _ :: ν => Framed.bind (Framed.hard _) fun _ => Framed.bind (Framed.ok _) fun _ => freeIds_framed ν
theorem lendCall_framed (θ ν : List (Nat × Nat)) (f : FuncId) (args : List PV) : Framed (lendCall θ ν f args) :=
  Framed.bind (lendL_framed _ _) fun _ => Framed.bind (lentBoxes_framed _) fun _ => Framed.bind (freeIds_framed _) fun _ => Framed.bind (Framed.ok _) fun _ => Framed.pure _
theorem newVar_framed (id : Nat) (T : TypeId) (v : PV) : Framed (newVar id T v) := by
  unfold newVar
  repeat (first | exact Framed.pure _ | exact Framed.hard _ | exact Framed.ok _ | (refine Framed.bind ?_ fun _ => ?_))
theorem slicePV_framed (P : Program) (t : TypeId) (x : PV) (lo hi : Option PV) : Framed (slicePV P t x lo hi) := by
  unfold slicePV
  split <;> repeat (first | exact Framed.pure _ | exact Framed.fail | exact Framed.soft _ | exact Framed.ok _ | exact Framed.ofOpt _ | (refine Framed.bind ?_ fun _ => ?_) | split)
theorem appendPV_framed (P : Program) (id : Nat) (T T2 : TypeId) (s x : PV) : Framed (appendPV P id T T2 s x) := by
  unfold appendPV
  repeat (first | exact Framed.pure _ | exact Framed.fail | exact Framed.soft _ | exact Framed.hard _ | exact Framed.ok _ | exact Framed.ofOpt _ | exact esc0_framed _ | (refine Framed.bind ?_ fun _ => ?_) | split)
theorem opVal_framed (P : Program) (tb : Tab) (id : Nat) (o : Op) (vs : List PV) : Framed (opVal P tb id o vs) := by
  unfold opVal
  split <;> repeat (first | exact Framed.pure _ | exact Framed.fail | exact Framed.soft _ | exact Framed.hard _ | exact Framed.ok _ | exact Framed.ofOpt _ | exact escL_framed _ | exact esc1L_framed _ | exact escCL_framed _ | exact newVar_framed _ _ _ | exact slicePV_framed _ _ _ _ _ | exact appendPV_framed _ _ _ _ _ _ | exact lendCall_framed _ _ _ _ | exact convM_framed _ _ _ _ | exact copyPV_framed _ _ _ _ | exact clearPV_framed _ _ _ | (refine Framed.bind ?_ fun _ => ?_) | split)

end Go.Vl
