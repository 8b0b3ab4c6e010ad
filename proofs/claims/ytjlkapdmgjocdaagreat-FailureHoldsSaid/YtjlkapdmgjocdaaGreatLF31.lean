/-
  LF31 (merged for the claim).
-/
import Derived.Test.YtjlkapdmgjocdaaGreatLF14
import Derived.Test.YtjlkapdmgjocdaaGreatLF29
set_option linter.unusedSimpArgs false
set_option linter.unusedVariables false
namespace Go.Proofs.YtjlkapdmgjocdaaGreat
open Go.Vl Go.RowKit Go.Dg
theorem Qik (os:Os) (started:os.Started) (H:Type) (enc:TypeId×Value→H):
  ReturnsInHanded {} Tryz.checked os 7 .any (Rows.failureHoldsSpec.pre6 enc Tryz.prog Tryz.f7 Rows.failureHoldsRow.domain false) (Rows.failureHoldsSpec.post enc Tryz.prog Tryz.f7 false true false false):=by
 refine Qqe (C:=Tryz.checked) [Q5r,Q5s,.int .i64,.int .i64] own started (by kernel_rfl) Tryz.func7
  (ChangeSpec.witness6 (enc:=enc) (C:=Tryz.checked) false ⟨#[], #[Zl5,Qy1,.int .i64 0,.int .i64 0],[]⟩ 8 (by kernel_rfl) (by kernel_rfl) (by kernel_rfl) (by kernel_rfl))
  Q5p rfl (tb:=4) (by kernel_rfl) (by kernel_rfl) (by kernel_rfl) (by kernel_rfl) ?_ (by kernel_rfl) Zuz ?_
 ·intro ds hd
  match ds,hd with
  | [d1,d2,d3,d4],_=>rfl
 ·rintro pvs ⟨d1,_,rfl,h1,d2,_,rfl,h2,d3,_,rfl,h3,d4,_,rfl,h4,rfl⟩;obtain⟨p1,e1⟩:=Qtf h1;obtain⟨a2,b2,e2⟩:=Qtg h2;obtain⟨n3,e3⟩:=Qy0 h3;obtain⟨n4,e4⟩:=Qy0 h4;rw [e1,e2,e3,e4];exact Qow p1 a2 b2 n3 n4
theorem FailureHolds_holds:Rows.FailureHoldsSaid:=
 OpenClaim.holds_of_wide (p:=Tryz.pinned) (s:=Rows.failureHoldsSpec) (c:=Rows.failureHoldsRow) 7 Tryz.f7 rfl rfl rfl rfl rfl rfl rfl ⟨rfl,rfl,rfl,rfl,rfl⟩ rfl rfl rfl rfl rfl (by kernel_rfl) Tryz.func7 (by kernel_rfl)
  (of_decide_eq_true (by kernel_rfl)) (by unfold Func.isWrapper;first|(rw [if_pos (by decide+kernel)];kernel_rfl)|(rw [if_neg (by decide+kernel)];exact⟨rfl,rfl⟩))
  (fun os started H enc _=>Qik os started H enc)
end Go.Proofs.YtjlkapdmgjocdaaGreat
