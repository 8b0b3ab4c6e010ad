/-
  LF15 (merged for the claim).
-/
import Derived.Test.YtjlkapdmgjocdaaGreatLF14
set_option linter.unusedSimpArgs false
set_option linter.unusedVariables false
namespace Go.Proofs.YtjlkapdmgjocdaaGreat
open Go.Vl Go.RowKit Go.Dg
theorem Qeu (os:Os) (started:os.Started) (H:Type) (enc:TypeId×Value→H):
  ReturnsInHanded {} Tryz.checked os 3 .any (Rows.failureValidSpec.pre6 enc Tryz.prog Tryz.f3 Rows.failureValidRow.domain false) (Rows.failureValidSpec.post enc Tryz.prog Tryz.f3 false true false false):=by
 refine Qgi (C:=Tryz.checked) [Qot,Qmm,Qmm] own started (by kernel_rfl) Tryz.func3
  (ChangeSpec.witness6 (enc:=enc) (C:=Tryz.checked) false ⟨#[], #[Qqw,Qhb,Qhb],[]⟩ 8 (by kernel_rfl) (by kernel_rfl) (by kernel_rfl) (by kernel_rfl))
  Qml rfl (tb:=4) (by kernel_rfl) (by kernel_rfl) (by kernel_rfl) (by kernel_rfl) ?_ (by kernel_rfl) Qxt ?_
 ·intro ds hd
  match ds,hd with
  | [d1,d2,d3],_=>rfl
 ·rintro pvs ⟨d1,_,rfl,h1,d2,_,rfl,h2,d3,_,rfl,h3,rfl⟩
  obtain⟨p1,e1⟩:=Qhq h1
  obtain⟨a2,b2,e2⟩:=Qe7 h2
  obtain⟨a3,b3,e3⟩:=Qe7 h3
  rw [e1,e2,e3]
  exact Qir p1 a2 b2 a3 b3
theorem FailureValid_holds:Rows.FailureValidSaid:=
 OpenClaim.holds_of_wide (p:=Tryz.pinned) (s:=Rows.failureValidSpec) (c:=Rows.failureValidRow) 3 Tryz.f3 rfl rfl rfl rfl rfl rfl rfl ⟨rfl,rfl,rfl,rfl,rfl⟩ rfl rfl rfl rfl rfl (by kernel_rfl) Tryz.func3 (by kernel_rfl)
  (of_decide_eq_true (by kernel_rfl)) (by unfold Func.isWrapper;first|(rw [if_pos (by decide+kernel)];kernel_rfl)|(rw [if_neg (by decide+kernel)];exact⟨rfl,rfl⟩))
  (fun os started H enc _=>Qeu os started H enc)
end Go.Proofs.YtjlkapdmgjocdaaGreat
