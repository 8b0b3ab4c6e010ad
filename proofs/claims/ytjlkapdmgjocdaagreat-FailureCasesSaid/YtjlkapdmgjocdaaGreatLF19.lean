/-
  LF19 (merged for the claim).
-/
import Derived.Test.YtjlkapdmgjocdaaGreatLF14
import Derived.Test.YtjlkapdmgjocdaaGreatLF18
set_option linter.unusedSimpArgs false
set_option linter.unusedVariables false
namespace Go.Proofs.YtjlkapdmgjocdaaGreat
open Go.Vl Go.RowKit Go.Dg
theorem Qer (os:Os) (started:os.Started) (H:Type) (enc:TypeId×Value→H):
  ReturnsInHanded {} Tryz.checked os 5 .any (Rows.failureCasesSpec.pre6 enc Tryz.prog Tryz.f5 Rows.failureCasesRow.domain false) (Rows.failureCasesSpec.post enc Tryz.prog Tryz.f5 false true false false):=by
 refine Qqa (C:=Tryz.checked) [Qtl,.int .i64] own started (by kernel_rfl) Tryz.func5
  (ChangeSpec.witness6 (enc:=enc) (C:=Tryz.checked) false ⟨#[], #[Q1p,.int .i64 0],[]⟩ 8 (by kernel_rfl) (by kernel_rfl) (by kernel_rfl) (by kernel_rfl))
  Qxw rfl (tb:=4) (by kernel_rfl) (by kernel_rfl) (by kernel_rfl) (by kernel_rfl) ?_ (by kernel_rfl) Q3l ?_
 ·intro ds hd
  match ds,hd with
  | [d1,d2],_=>rfl
 ·rintro pvs ⟨d1,_,rfl,h1,d2,_,rfl,h2,rfl⟩
  obtain⟨p1,e1⟩:=Qqr h1
  obtain⟨n2,e2⟩:=Qtk h2
  rw [e1,e2]
  exact Qiu p1 n2
theorem FailureCases_holds:Rows.FailureCasesSaid:=
 OpenClaim.holds_of_wide (p:=Tryz.pinned) (s:=Rows.failureCasesSpec) (c:=Rows.failureCasesRow) 5 Tryz.f5 rfl rfl rfl rfl rfl rfl rfl ⟨rfl,rfl,rfl,rfl,rfl⟩ rfl rfl rfl rfl rfl (by kernel_rfl) Tryz.func5 (by kernel_rfl)
  (of_decide_eq_true (by kernel_rfl)) (by unfold Func.isWrapper;first|(rw [if_pos (by decide+kernel)];kernel_rfl)|(rw [if_neg (by decide+kernel)];exact⟨rfl,rfl⟩))
  (fun os started H enc _=>Qer os started H enc)
end Go.Proofs.YtjlkapdmgjocdaaGreat
