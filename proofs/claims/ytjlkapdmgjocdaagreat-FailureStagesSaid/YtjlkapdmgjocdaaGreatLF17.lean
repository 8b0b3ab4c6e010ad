/-
  LF17 (merged for the claim).
-/
import Derived.Test.YtjlkapdmgjocdaaGreatLF14
set_option linter.unusedSimpArgs false
set_option linter.unusedVariables false
namespace Go.Proofs.YtjlkapdmgjocdaaGreat
open Go.Vl Go.RowKit Go.Dg
theorem Qeh (os:Os) (started:os.Started) (H:Type) (enc:TypeId×Value→H):
  ReturnsInHanded {} Tryz.checked os 4 .any (Rows.failureStagesSpec.pre6 enc Tryz.prog Tryz.f4 Rows.failureStagesRow.domain false) (Rows.failureStagesSpec.post enc Tryz.prog Tryz.f4 false true false false):=by
 refine Qgi (C:=Tryz.checked) [Qot,Qmm,.int .i64,.int .i64] own started (by kernel_rfl) Tryz.func4
  (ChangeSpec.witness6 (enc:=enc) (C:=Tryz.checked) false ⟨#[], #[Qqw,Qhb,.int .i64 0,.int .i64 0],[]⟩ 8 (by kernel_rfl) (by kernel_rfl) (by kernel_rfl) (by kernel_rfl))
  Qml rfl (tb:=4) (by kernel_rfl) (by kernel_rfl) (by kernel_rfl) (by kernel_rfl) ?_ (by kernel_rfl) Qxt ?_
 ·intro ds hd
  match ds,hd with
  | [d1,d2,d3,d4],_=>rfl
 ·rintro pvs ⟨d1,_,rfl,h1,d2,_,rfl,h2,d3,_,rfl,h3,d4,_,rfl,h4,rfl⟩
  obtain⟨p1,e1⟩:=Qhq h1
  obtain⟨a2,b2,e2⟩:=Qe7 h2
  obtain⟨n3,e3⟩:=Qnu h3
  obtain⟨n4,e4⟩:=Qnu h4
  rw [e1,e2,e3,e4]
  exact Qho p1 a2 b2 n3 n4
theorem FailureStages_holds:Rows.FailureStagesSaid:=
 OpenClaim.holds_of_wide (p:=Tryz.pinned) (s:=Rows.failureStagesSpec) (c:=Rows.failureStagesRow) 4 Tryz.f4 rfl rfl rfl rfl rfl rfl rfl ⟨rfl,rfl,rfl,rfl,rfl⟩ rfl rfl rfl rfl rfl (by kernel_rfl) Tryz.func4 (by kernel_rfl)
  (of_decide_eq_true (by kernel_rfl)) (by unfold Func.isWrapper;first|(rw [if_pos (by decide+kernel)];kernel_rfl)|(rw [if_neg (by decide+kernel)];exact⟨rfl,rfl⟩))
  (fun os started H enc _=>Qeh os started H enc)
end Go.Proofs.YtjlkapdmgjocdaaGreat
