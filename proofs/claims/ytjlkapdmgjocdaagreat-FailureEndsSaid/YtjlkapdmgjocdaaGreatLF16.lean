/-
  LF16 (merged for the claim).
-/
import Derived.Test.YtjlkapdmgjocdaaGreatLF14
set_option linter.unusedSimpArgs false
set_option linter.unusedVariables false
namespace Go.Proofs.YtjlkapdmgjocdaaGreat
open Go.Vl Go.RowKit Go.Dg
theorem Qe8 (os:Os) (started:os.Started) (H:Type) (enc:TypeId×Value→H):
  ReturnsInHanded {} Tryz.checked os 6 .any (Rows.failureEndsSpec.pre6 enc Tryz.prog Tryz.f6 Rows.failureEndsRow.domain false) (Rows.failureEndsSpec.post enc Tryz.prog Tryz.f6 false true false false):=by
 refine Qgi (C:=Tryz.checked) [Qot,Qmm] own started (by kernel_rfl) Tryz.func6
  (ChangeSpec.witness6 (enc:=enc) (C:=Tryz.checked) false ⟨#[], #[Qqw,Qhb],[]⟩ 8 (by kernel_rfl) (by kernel_rfl) (by kernel_rfl) (by kernel_rfl))
  Qml rfl (tb:=4) (by kernel_rfl) (by kernel_rfl) (by kernel_rfl) (by kernel_rfl) ?_ (by kernel_rfl) Qxt ?_
 ·intro ds hd
  match ds,hd with
  | [d1,d2],_=>rfl
 ·rintro pvs ⟨d1,_,rfl,h1,d2,_,rfl,h2,rfl⟩
  obtain⟨p1,e1⟩:=Qhq h1
  obtain⟨a2,b2,e2⟩:=Qe7 h2
  rw [e1,e2]
  exact Qjz p1 a2 b2
theorem FailureEnds_holds:Rows.FailureEndsSaid:=
 OpenClaim.holds_of_wide (p:=Tryz.pinned) (s:=Rows.failureEndsSpec) (c:=Rows.failureEndsRow) 6 Tryz.f6 rfl rfl rfl rfl rfl rfl rfl ⟨rfl,rfl,rfl,rfl,rfl⟩ rfl rfl rfl rfl rfl (by kernel_rfl) Tryz.func6 (by kernel_rfl)
  (of_decide_eq_true (by kernel_rfl)) (by unfold Func.isWrapper;first|(rw [if_pos (by decide+kernel)];kernel_rfl)|(rw [if_neg (by decide+kernel)];exact⟨rfl,rfl⟩))
  (fun os started H enc _=>Qe8 os started H enc)
end Go.Proofs.YtjlkapdmgjocdaaGreat
