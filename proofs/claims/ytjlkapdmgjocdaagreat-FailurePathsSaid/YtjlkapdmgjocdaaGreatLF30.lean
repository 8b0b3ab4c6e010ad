/-
  LF30 (merged for the claim).
-/
import Derived.Test.YtjlkapdmgjocdaaGreatLF14
import Derived.Test.YtjlkapdmgjocdaaGreatLF28
set_option linter.unusedSimpArgs false
set_option linter.unusedVariables false
namespace Go.Proofs.YtjlkapdmgjocdaaGreat
open Go.Vl Go.RowKit Go.Dg
theorem Qij (os:Os) (started:os.Started) (H:Type) (enc:TypeId×Value→H):
  ReturnsInHanded {} Tryz.checked os 8 .any (Rows.failurePathsSpec.pre6 enc Tryz.prog Tryz.f8 Rows.failurePathsRow.domain false) (Rows.failurePathsSpec.post enc Tryz.prog Tryz.f8 false true false false):=by
 refine Qqe (C:=Tryz.checked) [Q5r,Q5s] own started (by kernel_rfl) Tryz.func8
  (ChangeSpec.witness6 (enc:=enc) (C:=Tryz.checked) false ⟨#[], #[Zl5,Qy1],[]⟩ 8 (by kernel_rfl) (by kernel_rfl) (by kernel_rfl) (by kernel_rfl))
  Q5p rfl (tb:=4) (by kernel_rfl) (by kernel_rfl) (by kernel_rfl) (by kernel_rfl) ?_ (by kernel_rfl) Zuz ?_
 ·intro ds hd
  match ds,hd with
  | [d1,d2],_=>rfl
 ·rintro pvs ⟨d1,_,rfl,h1,d2,_,rfl,h2,rfl⟩;obtain⟨p1,e1⟩:=Qtf h1;obtain⟨a2,b2,e2⟩:=Qtg h2;rw [e1,e2];exact Qov p1 a2 b2
theorem FailurePaths_holds:Rows.FailurePathsSaid:=
 OpenClaim.holds_of_wide (p:=Tryz.pinned) (s:=Rows.failurePathsSpec) (c:=Rows.failurePathsRow) 8 Tryz.f8 rfl rfl rfl rfl rfl rfl rfl ⟨rfl,rfl,rfl,rfl,rfl⟩ rfl rfl rfl rfl rfl (by kernel_rfl) Tryz.func8 (by kernel_rfl)
  (of_decide_eq_true (by kernel_rfl)) (by unfold Func.isWrapper;first|(rw [if_pos (by decide+kernel)];kernel_rfl)|(rw [if_neg (by decide+kernel)];exact⟨rfl,rfl⟩))
  (fun os started H enc _=>Qij os started H enc)
end Go.Proofs.YtjlkapdmgjocdaaGreat
