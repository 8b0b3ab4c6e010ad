/-
  PY17 (merged for the claim).
-/
import Derived.Test.YtlghoaggenhheaaGreatPM63
import Derived.Test.YtlghoaggenhheaaGreatPM30
set_option linter.unusedSimpArgs false
set_option linter.unusedVariables false
namespace Go.Proofs.YtlghoaggenhheaaGreat
open Go.Vl Go.RowKit
theorem Qjl (os:Os) (started:os.Started) (H:Type) (enc:TypeId×Value→H):
  ReturnsInHanded {} Tryz.checked os 3 .any (Rows.segmentPathsSpec.pre6 enc Tryz.prog Tryz.f3 Rows.segmentPathsRow.domain false) (Rows.segmentPathsSpec.post enc Tryz.prog Tryz.f3 false true false false):=by
 refine Qrr (C:=Tryz.checked) [.slc segT,.slc segT,.int .i64] own started (by kernel_rfl) Tryz.func3
  (ChangeSpec.witness6 (enc:=enc) (C:=Tryz.checked) false ⟨#[], #[.slice none 0 0,.slice none 0 0,.int .i64 0],[]⟩ 8 (by kernel_rfl) (by kernel_rfl) (by kernel_rfl) (by kernel_rfl))
  Zas rfl (tb:=4) (by kernel_rfl) (by kernel_rfl) (by kernel_rfl) (by kernel_rfl) ?_ (by kernel_rfl) ⟨by kernel_rfl,by kernel_rfl⟩ ?_
 ·intro ds hd
  match ds,hd with
  | [d1,d2,d3],_=>rfl
 ·rintro pvs ⟨d1,_,rfl,h1,d2,_,rfl,h2,d3,_,rfl,h3,rfl⟩;obtain⟨n1,e1,b1⟩:=Qot h1;obtain⟨n2,e2,b2⟩:=Qot h2;obtain⟨n3,e3,b3,c3⟩:=Qs8 h3;rw [e1,e2,e3];exact Qpr n1 b1 n2 b2 n3 b3 c3
theorem SegmentPaths_holds:Rows.SegmentPathsSaid:=
 OpenClaim.holds_of_wide (p:=Tryz.pinned) (s:=Rows.segmentPathsSpec) (c:=Rows.segmentPathsRow) 3 Tryz.f3 rfl rfl rfl rfl rfl rfl rfl ⟨rfl,rfl,rfl,rfl,rfl⟩ rfl rfl rfl rfl rfl (by kernel_rfl) Tryz.func3 (by kernel_rfl)
  (of_decide_eq_true (by kernel_rfl)) (by unfold Func.isWrapper;first|(rw [if_pos (by decide+kernel)];kernel_rfl)|(rw [if_neg (by decide+kernel)];exact⟨rfl,rfl⟩))
  (fun os started H enc _=>Qjl os started H enc)
end Go.Proofs.YtlghoaggenhheaaGreat
