/-
  GlideTours: the row.
-/
import Derived.Test.YtkajnimlfehmeaaGG6
import Derived.Test.YtkajnimlfehmeaaRows
set_option linter.unusedSimpArgs false
set_option linter.unusedVariables false
namespace Go.Proofs.Ytkajnimlfehmeaa
open Go.Vl Go.RowKit

theorem GlideTours_v (ps : List Sky.V3) (ts : List Int) (m : Int) : SoundAt Try.prog 4 [.slc (ps.map v3PV), ints ts, .int .i64 m] (.bool true) := by
  by_cases h : 20 < ps.length ∨ 20 < ts.length
  · exact tours_long ps ts m h
  · by_cases hm : 255 ≤ m ∧ m ≤ 259
    · obtain ⟨n, rfl⟩ : ∃ n : Nat, m = n := ⟨m.toNat, by omega⟩
      exact tours_many ps ts n (by omega) (by omega) (by omega)
    · exact tours_few ps ts m (by omega) (by omega) hm

theorem own : ownKnob Try.prog.godebug = none := by kernel_rfl
theorem laid : laidOutB Try.prog = true := by kernel_rfl
def vecT : TT := .agg [.int .i64, .int .i64, .int .i64]
theorem vecT_inv {c : List PV} (h : HasTT vecT c) : ∃ v : Sky.V3, vecT.mk c = v3PV v := by
  simp only [vecT, HasTT, HasTTs] at h
  obtain ⟨_, _, rfl, ⟨x, rfl, _⟩, _, _, rfl, ⟨y, rfl, _⟩, _, _, rfl, ⟨z, rfl, _⟩, rfl⟩ := h
  exact ⟨⟨x, y, z⟩, rfl⟩
theorem intT_inv {c : List PV} (h : HasTT (.int .i64) c) : ∃ x, TT.mk (.int .i64) c = .int .i64 x ∧ (Lit.int .i64 x).wf = true := by
  simp only [HasTT] at h
  obtain ⟨x, rfl, hx⟩ := h
  exact ⟨x, rfl, hx⟩
theorem map_inv {e : TT} {α : Type} {f : α → PV} (hf : ∀ c, HasTT e c → ∃ a, e.mk c = f a) : ∀ ess : List (List PV), (∀ c ∈ ess, HasTT e c) → ∃ l : List α, ess.map e.mk = l.map f
  | [], _ => ⟨[], rfl⟩
  | c :: cs, h => by
    obtain ⟨a, ha⟩ := hf c (h c (by simp))
    obtain ⟨l, hl⟩ := map_inv hf cs (fun c hc => h c (by simp [hc]))
    exact ⟨a :: l, by simp [ha, hl]⟩
theorem vecsT_inv {c : List PV} (h : HasTT (.slc vecT) c) : ∃ ps : List Sky.V3, TT.mk (.slc vecT) c = .slc (ps.map v3PV) := by
  simp only [HasTT] at h
  obtain ⟨ess, rfl, _, h⟩ := h
  obtain ⟨l, e⟩ := map_inv (f := v3PV) (fun c h => vecT_inv h) ess h
  exact ⟨l, by simp only [TT.mk, List.headD_cons]; rw [e]⟩
theorem intsT_inv {c : List PV} (h : HasTT (.slc (.int .i64)) c) : ∃ ts : List Int, TT.mk (.slc (.int .i64)) c = ints ts := by
  simp only [HasTT] at h
  obtain ⟨ess, rfl, _, h⟩ := h
  obtain ⟨l, e⟩ := map_inv (f := PV.int .i64) (fun c h => by obtain ⟨x, e, _⟩ := intT_inv h; exact ⟨x, e⟩) ess (fun c hc => by simpa only [HasTT] using h c hc)
  exact ⟨l, by simp only [TT.mk, List.headD_cons, ints]; rw [e]⟩

theorem GlideTours_lifted (os : Os) (started : os.Started) (H : Type) (enc : TypeId × Value → H) :
    ReturnsInHanded {} Try.checked os 4 .any (Rows.glideToursSpec.pre6 enc Try.prog Try.f4 Rows.glideToursRow.domain false) (Rows.glideToursSpec.post enc Try.prog Try.f4 false true false false) := by
  refine law_lifted (C := Try.checked) [.slc vecT, .slc (.int .i64), .int .i64] own started (by kernel_rfl) Try.func4
    (ChangeSpec.witness6 (enc := enc) (C := Try.checked) false ⟨#[], #[.slice none 0 0, .slice none 0 0, .int .i64 0], []⟩ 8 (by kernel_rfl) (by kernel_rfl) (by kernel_rfl) (by kernel_rfl))
    laid rfl (tb := 4) (by kernel_rfl) (by kernel_rfl) (by kernel_rfl) (by kernel_rfl) ?_ ?_
  · intro ds hd
    match ds, hd with
    | [d1, d2, d3], _ => rfl
  · rintro pvs ⟨c1, _, rfl, h1, c2, _, rfl, h2, c3, _, rfl, h3, rfl⟩
    obtain ⟨ps, e1⟩ := vecsT_inv h1
    obtain ⟨ts, e2⟩ := intsT_inv h2
    obtain ⟨m, e3, _⟩ := intT_inv h3
    rw [e1, e2, e3]
    exact GlideTours_v ps ts m

theorem GlideTours_holds : Rows.GlideToursSaid :=
  OpenClaim.holds_of_wide (p := Try.pinned) (s := Rows.glideToursSpec) (c := Rows.glideToursRow) 4 Try.f4 rfl rfl rfl rfl rfl rfl rfl ⟨rfl, rfl, rfl, rfl, rfl⟩ rfl rfl rfl rfl rfl (by kernel_rfl) Try.func4 (by kernel_rfl)
    (of_decide_eq_true (by kernel_rfl)) (by unfold Func.isWrapper; first | (rw [if_pos (by decide +kernel)]; kernel_rfl) | (rw [if_neg (by decide +kernel)]; exact ⟨rfl, rfl⟩))
    (fun os started H enc _ => GlideTours_lifted os started H enc)
end Go.Proofs.Ytkajnimlfehmeaa
