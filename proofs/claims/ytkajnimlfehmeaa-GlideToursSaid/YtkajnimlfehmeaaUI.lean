/-
  Slice expressions, lengths, appending, and all operations together.
-/
import Derived.Test.YtkajnimlfehmeaaUH
set_option linter.unusedSimpArgs false
set_option linter.unusedVariables false
namespace Go.Vl
open Go.RowKit

def OptInt (x : Option PV) (u : Option Value) : Prop := (x = none ∧ u = none) ∨ ∃ k i, x = some (.int k i) ∧ u = some (.int k i)

section
variable {C : Ctx} {st : St} {a : Act} {w : World} {ρ : Rho} {im : Im} {o : Oper} {P : Program}

theorem run_bounds {len cap : Nat} (hcap : len ≤ cap) {lo hi : Option PV} {vl vh : Option Value} (hl : OptInt lo vl) (hh : OptInt hi vh) {r : Nat × Nat} (h : boundsPV len lo hi = some r) (s : Bool) :
    (Instr.sliceBounds s len cap vl vh none).run P w = .ok (r.1, r.2, cap) w ∧ r.1 ≤ r.2 ∧ r.2 ≤ len := by
  rcases hh with ⟨rfl, rfl⟩ | ⟨k, i, rfl, rfl⟩ <;> rcases hl with ⟨rfl, rfl⟩ | ⟨k', j, rfl, rfl⟩ <;> simp only [boundsPV] at h <;> split at h <;> cases h
  · rename_i hc
    refine ⟨by simp [Instr.sliceBounds], by simp, by simp⟩
  · rename_i hc
    refine ⟨?_, by simp; omega, by simp⟩
    have : j ≤ (len : Int) := by omega
    simp [Instr.sliceBounds, Instr.sliceBound, asIntOf, hc.1, this]
  · rename_i hc
    refine ⟨?_, by simp, by simp; omega⟩
    have h1 : 0 ≤ i := by omega
    have : i ≤ (cap : Int) := by omega
    simp [Instr.sliceBounds, Instr.sliceBound, asIntOf, h1, this]
  · rename_i hc
    refine ⟨?_, by simp; omega, by simp; omega⟩
    have h1 : 0 ≤ i := by omega
    have h2 : i ≤ (cap : Int) := by omega
    have h3 : j ≤ ((i.toNat : Nat) : Int) := by omega
    have h4 : j ≤ max i 0 := by omega
    simp [Instr.sliceBounds, Instr.sliceBound, asIntOf, h1, h2, hc.1, h3, h4]

theorem run_sliceAt_plain {T : TypeId} {d : TypeDesc} (hd : P.underlying T = some d) (hn : ∀ n e, d ≠ .array n e) (x : Value) (lo hi mx : Option Value) :
    (Instr.sliceAt T x lo hi mx).run P w = (Instr.slice T x lo hi mx).run P w := by
  cases d <;> first | exact absurd rfl (hn _ _) | simp [Instr.sliceAt, run_underlying hd]

theorem rep_nothing0 {w : World} {im : Im} {A : Option Addr} {c : Nat} (hm : c ≤ maxLen) : Rep w im (.slc []) (.slice A 0 c) := by
  cases A with
  | none => exact .slcNil c hm
  | some p => exact .slcE p c hm

theorem does_slice {T : TypeId} {x : Operand} {v r : PV} {lo hi : Option PV} {vl vh : Option Value} {s : Sem Next} {es : List Eff} {l : Acc} (h : Rel' C st a w ρ im) (hx : LR w im ρ v (a.eval x))
    (hl : OptInt lo vl) (hh : OptInt hi vh) (hs : ∀ u, (Instr.sliceAt T (a.eval x) vl vh none).run C.P w = .ok u w → s.run C.P w = .ok (.value u) w) (he : slicePV C.P T v lo hi st.box = some (.done r es, l)) :
    Does C (effsOn es st) a w s r := by
  unfold slicePV at he
  split at he
  · -- a string
    rename_i str
    obtain ⟨_, _, _, e1, e2, _⟩ := M.bind_some he
    obtain ⟨c1, _⟩ := M.ok_some e1
    obtain ⟨q, _, _, e3, e4, _⟩ := M.bind_some e2
    obtain ⟨c2, _⟩ := M.ofOpt_some e3
    obtain ⟨e5, _⟩ := M.pure_some e4
    cases e5
    split at c1
    · rename_i hT
      obtain ⟨k1, k2, k3⟩ := run_bounds (P := C.P) (w := w) (Nat.le_refl _) hl hh c2 false
      refine ⟨_, w, ρ, im, .inl (hs _ ?_), h, .ext _ _ (.str _)⟩
      rw [run_sliceAt_plain hT (by simp), hx.str_inv]
      simp [Instr.slice, run_underlying hT, k1]
    · cases c1
  · -- nil
    obtain ⟨_, _, _, e1, e2, _⟩ := M.bind_some he
    obtain ⟨c1, _⟩ := M.ofOpt_some e1
    obtain ⟨_, _, _, e3, e4, _⟩ := M.bind_some e2
    obtain ⟨c2, _⟩ := M.ok_some e3
    obtain ⟨q, _, _, e5, e6, _⟩ := M.bind_some e4
    obtain ⟨c3, _⟩ := M.ofOpt_some e5
    obtain ⟨e7, _⟩ := M.pure_some e6
    cases e7
    obtain ⟨E, hE⟩ := Option.isSome_iff_exists.1 c2
    rw [hE] at c1
    simp only [Option.getD_some] at c1
    obtain ⟨i, hi, _, _⟩ := tyInfo_inv c1
    have hT := tyElem_inv hE
    obtain ⟨k1, k2, k3⟩ := run_bounds (P := C.P) (w := w) (Nat.le_refl 0) hl hh c3 true
    have z2 : q.2 = 0 := by omega
    have z1 : q.1 = 0 := by omega
    refine ⟨.slice none 0 0, w, ρ, im, .inl (hs _ ?_), h, .ext _ _ .nilS⟩
    rw [run_sliceAt_plain hT (by simp), hx.nilS_inv]
    simp [Instr.slice, run_underlying hT, k1, run_sizeOf' hi, z1, z2]
  · -- a slice that is held
    rename_i els
    obtain ⟨E, _, _, e1, e2, _⟩ := M.bind_some he
    obtain ⟨c1, _⟩ := M.ofOpt_some e1
    obtain ⟨q, _, _, e3, e4, _⟩ := M.bind_some e2
    obtain ⟨c2, _⟩ := M.ofOpt_some e3
    obtain ⟨b, _, _, e5, e6, _⟩ := M.bind_some e4
    obtain ⟨c3, _⟩ := M.ofOpt_some e5
    obtain ⟨_, _, _, e7, e8, _⟩ := M.bind_some e6
    obtain ⟨c4, _⟩ := M.ok_some e7
    obtain ⟨e9, _⟩ := M.pure_some e8
    cases e9
    obtain ⟨i, hi, hi1, _⟩ := tyInfo_inv c2
    have hT := tyElem_inv c1
    have hr := hx.slc_inv
    generalize hu : a.eval x = u at *
    cases hr with
    | slcNil c hm =>
      obtain ⟨k1, k2, k3⟩ := run_bounds (P := C.P) (w := w) (Nat.zero_le c) hl hh c3 true
      have z2 : b.2 = 0 := by simpa using k3
      have z1 : b.1 = 0 := by omega
      refine ⟨.slice none 0 c, w, ρ, im, .inl (hs _ ?_), h, ?_⟩
      · rw [run_sliceAt_plain hT (by simp)]
        simp [Instr.slice, run_underlying hT, k1, run_sizeOf' hi, z1, z2]
      · simp; exact .ext _ _ (.slcNil c hm)
    | slcE p cap hm =>
      obtain ⟨k1, k2, k3⟩ := run_bounds (P := C.P) (w := w) (Nat.zero_le cap) hl hh c3 true
      have z2 : b.2 = 0 := by simpa using k3
      have z1 : b.1 = 0 := by omega
      refine ⟨.slice (some p) 0 cap, w, ρ, im, .inl (hs _ ?_), h, ?_⟩
      · rw [run_sliceAt_plain hT (by simp)]
        simp [Instr.slice, run_underlying hT, k1, run_sizeOf' hi, z1, z2, Addr.add]
      · simp; exact .ext _ _ (.slcE p cap hm)
    | slc _ g off len cap sz vs hn hm hz hii hc hrl hcap =>
      subst hn
      obtain ⟨k1, k2, k3⟩ := run_bounds (P := C.P) (w := w) hcap hl hh c3 true
      have hvl := hrl.length
      rw [flat_length hz] at hvl
      have hszq : els = [] ∨ sz = q.1 := by
        cases els with
        | nil => exact .inl rfl
        | cons e es =>
          right
          have := hz e (by simp)
          simp only [List.all_cons, Bool.and_eq_true, beq_iff_eq] at c4
          rw [← this, c4.1]
      have hlen : ((els.take b.2).drop b.1).length = b.2 - b.1 := by simp; omega
      refine ⟨.slice (if cap = b.1 then some ⟨g, off, none⟩ else some ⟨g, off + b.1 * q.1, none⟩) (b.2 - b.1) (cap - b.1), w, ρ, im, .inl (hs _ ?_), h, ?_⟩
      · rw [run_sliceAt_plain hT (by simp)]
        simp [Instr.slice, run_underlying hT, k1, run_sizeOf' hi, hi1, addr_add]
      · by_cases hb : cap = b.1
        · rw [if_pos hb]
          have hb0 : b.2 - b.1 = 0 := by omega
          have hnil : (els.take b.2).drop b.1 = [] := List.length_eq_zero_iff.1 (by omega)
          rw [hnil, hb0]
          exact .ext _ _ (.slc [] g off 0 (cap - b.1) 0 [] rfl (by omega) (by simp) (by simp) (by simp) .nil (Nat.zero_le _))
        · rw [if_neg hb]
          rcases hszq with rfl | rfl
          · have e0 : b.2 = 0 := by simpa using k3
            have e1 : b.1 = 0 := by omega
            simp only [List.take_nil, List.drop_nil, e0, e1, Nat.sub_zero]
            exact .ext _ _ (.slc [] g _ 0 _ 0 [] rfl (by omega) (by simp) (by simp) (by simp) .nil (Nat.zero_le _))
          · have h1 := (hrl.take (b.2 * q.1)).drop (b.1 * q.1)
            rw [flat_take b.2 hz, flat_drop b.1 (fun e he => hz e (List.mem_of_mem_take he))] at h1
            have hm2 : b.2 * q.1 ≤ els.length * q.1 := Nat.mul_le_mul_right _ k3
            refine .ext _ _ (.slc _ g _ _ _ q.1 _ hlen (by omega) (fun e he => hz e (List.mem_of_mem_take (List.mem_of_mem_drop he))) ?_ ?_ h1 (by omega))
            · intro j hj
              have := hii (b.1 * q.1 + j) (by simp at hj; omega)
              rwa [← Nat.add_assoc] at this
            · intro j hj
              have := hc (b.1 * q.1 + j) (by simp at hj; omega)
              rw [← Nat.add_assoc] at this
              rw [this]
              simp only [List.getElem?_drop, List.getElem?_take]
              rw [if_pos (by simp at hj; omega)]
  · -- a slice of the call's own
    rename_i b esz off len
    obtain ⟨E, _, _, e1, e2, _⟩ := M.bind_some he
    obtain ⟨c1, _⟩ := M.ofOpt_some e1
    obtain ⟨q, _, _, e3, e4, _⟩ := M.bind_some e2
    obtain ⟨c2, _⟩ := M.ofOpt_some e3
    obtain ⟨_, _, _, e5, e6, _⟩ := M.bind_some e4
    obtain ⟨c3, _⟩ := M.ok_some e5
    obtain ⟨bd, _, _, e7, e8, _⟩ := M.bind_some e6
    obtain ⟨c4, _⟩ := M.ofOpt_some e7
    simp only [beq_iff_eq] at c3
    obtain ⟨i, hi, hi1, _⟩ := tyInfo_inv c2
    have hT := tyElem_inv c1
    split at e8
    · obtain ⟨e9, _⟩ := M.pure_some e8
      cases e9
      have hlow : bd.1 = 0 := by
        simp only [boundsPV] at c4
        split at c4
        · rename_i h' l' e1' e2'
          cases e2'
          split at c4
          · cases c4; rfl
          · cases c4
        · cases c4
      rcases hx.bs_inv with ⟨eρ, ⟨x0, hu⟩, rfl, rfl⟩ | ⟨g, cap, cur, e', hg, hu, hob, hcp, hlc, hmx⟩
      · obtain ⟨k1, k2, k3⟩ := run_bounds (P := C.P) (w := w) (Nat.le_refl 0) hl hh c4 true
        have z2 : bd.2 = 0 := by omega
        refine ⟨.slice (x0.map fun p => ⟨p.1, p.2, none⟩) 0 0, w, ρ, im, .inl (hs _ ?_), h, ?_⟩
        · rw [run_sliceAt_plain hT (by simp), hu]
          simp [Instr.slice, run_underlying hT, k1, run_sizeOf' hi, hlow, z2]
        · rw [z2]; exact .bsNil _ _ _ eρ
      · obtain ⟨k1, k2, k3⟩ := run_bounds (P := C.P) (w := w) hlc hl hh c4 true
        refine ⟨.slice (some ⟨g, off * esz, none⟩) bd.2 cap, w, ρ, im, .inl (hs _ ?_), h, .bs _ _ _ _ g _ cap cur e' hg hob rfl hcp (by omega) hmx⟩
        rw [run_sliceAt_plain hT (by simp), hu]
        simp [Instr.slice, run_underlying hT, k1, run_sizeOf' hi, hlow, addr_add]
    · rename_i lv
      obtain ⟨e9, _⟩ := M.pure_some e8
      cases e9
      rcases hx.bs_inv with ⟨eρ, ⟨x0, hu⟩, rfl, rfl⟩ | ⟨g, cap, cur, e', hg, hu, hob, hcp, hlc, hmx⟩
      · obtain ⟨k1, k2, k3⟩ := run_bounds (P := C.P) (w := w) (Nat.le_refl 0) hl hh c4 true
        have z2 : bd.2 = 0 := by omega
        have z1 : bd.1 = 0 := by omega
        refine ⟨.slice (x0.map fun p => ⟨p.1, p.2, none⟩) 0 0, w, ρ, im, .inl (hs _ ?_), h, ?_⟩
        · rw [run_sliceAt_plain hT (by simp), hu]
          simp [Instr.slice, run_underlying hT, k1, run_sizeOf' hi, z1, z2]
        · rw [z1, z2, if_neg (Nat.lt_irrefl _)]; exact .ext _ _ (rep_nothing0 (Nat.zero_le _))
      · obtain ⟨k1, k2, k3⟩ := run_bounds (P := C.P) (w := w) hlc hl hh c4 true
        refine ⟨.slice (if cap = bd.1 then some ⟨g, off * esz, none⟩ else some ⟨g, off * esz + bd.1 * q.1, none⟩) (bd.2 - bd.1) (cap - bd.1), w, ρ, im, .inl (hs _ ?_), h, ?_⟩
        · rw [run_sliceAt_plain hT (by simp), hu]
          simp [Instr.slice, run_underlying hT, k1, run_sizeOf' hi, hi1, addr_add]
        · by_cases hlt : bd.1 < bd.2
          · rw [if_pos hlt, if_neg (by omega)]
            have e1 : off * esz + bd.1 * q.1 = (off + bd.1) * esz := by rw [c3, Nat.add_mul]
            have e2 : bd.1 * esz + (cap - bd.1) * esz = cap * esz := by rw [← Nat.add_mul]; congr 1; omega
            refine .bs _ _ _ _ g _ _ cur e' hg hob e1 ?_ (by omega) (by omega)
            rw [c3]; omega
          · rw [if_neg hlt]
            have e0 : bd.2 - bd.1 = 0 := by omega
            rw [e0]
            exact .ext _ _ (rep_nothing0 (by omega))
  · cases he

end
end Go.Vl
