/-
  FY1 (merged for the claim).
-/
import Derived.Test.YtnpclmmmngmdkaaGreatBn
import Derived.Test.YtnpclmmmngmdkaaGreatRows
import Derived.Test.YtnpclmmmngmdkaaGreatDn
set_option linter.unusedSimpArgs false
set_option linter.unusedVariables false
namespace Go.Proofs.YtnpclmmmngmdkaaGreat
open Go.Vl Go.RowKit

theorem own : ownKnob Tryz.prog.godebug = none := by kernel_rfl
theorem laidOut : laidOutB Tryz.prog = true := by kernel_rfl
def wideT : TT := .agg [.bool, .str]
theorem wideT_inv {c : List PV} (h : HasTT wideT c) : ∃ (n : Bool) (s : ByteArray), wideT.mk c = .agg [.bool n, .str s] ∧ s.size ≤ maxLen := by
  simp only [wideT, HasTT, HasTTs] at h
  obtain ⟨_, _, rfl, ⟨n, rfl⟩, _, _, rfl, ⟨s, rfl, hs⟩, rfl⟩ := h
  exact ⟨n, s, rfl, hs⟩
theorem intT_inv {k : IntKind} {c : List PV} (h : HasTT (.int k) c) : ∃ n : Int, TT.mk (.int k) c = .int k n ∧ (Lit.int k n).wf = true := by
  simp only [HasTT] at h
  obtain ⟨x, rfl, hx⟩ := h
  exact ⟨x, rfl, hx⟩
theorem i64_bounds {n : Int} (h : (Lit.int .i64 n).wf = true) : -9223372036854775808 ≤ n ∧ n ≤ 9223372036854775807 := by
  have := h
  simp [Lit.wf, IntKind.min, IntKind.max, IntKind.signed, IntKind.bits] at this
  omega
theorem i64T_inv {c : List PV} (h : HasTT (.int .i64) c) : ∃ n : Int, TT.mk (.int .i64) c = .int .i64 n ∧ -9223372036854775808 ≤ n ∧ n ≤ 9223372036854775807 := by
  obtain ⟨n, e, w⟩ := intT_inv h
  exact ⟨n, e, i64_bounds w⟩
theorem map_inv {e : TT} {α : Type} {f : α → PV} (hf : ∀ c, HasTT e c → ∃ a, e.mk c = f a) : ∀ ess : List (List PV), (∀ c ∈ ess, HasTT e c) → ∃ l : List α, ess.map e.mk = l.map f ∧ l.length = ess.length
  | [], _ => ⟨[], rfl, rfl⟩
  | c :: cs, h => by
    obtain ⟨a, ha⟩ := hf c (h c (by simp))
    obtain ⟨l, hl, hn⟩ := map_inv hf cs (fun c hc => h c (by simp [hc]))
    exact ⟨a :: l, by simp [ha, hl], by simp [hn]⟩
theorem widesT_inv {c : List PV} (h : HasTT (.slc wideT) c) : ∃ l : List (Bool × ByteArray), TT.mk (.slc wideT) c = .slc (l.map wA) ∧ l.length ≤ maxLen := by
  simp only [HasTT] at h
  obtain ⟨ess, rfl, hm, h⟩ := h
  obtain ⟨l, e, hn⟩ := map_inv (f := wA) (fun c h => by obtain ⟨n, s, e, _⟩ := wideT_inv h; exact ⟨(n, s), e⟩) ess h
  exact ⟨l, by simp only [TT.mk, List.headD_cons]; rw [e], by omega⟩
def zeroWide : Value := .agg #[.bool false, .string ⟨#[]⟩]
end Go.Proofs.YtnpclmmmngmdkaaGreat
