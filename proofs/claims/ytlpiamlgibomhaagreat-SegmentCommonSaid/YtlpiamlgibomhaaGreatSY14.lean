/-
  SY14 (merged for the claim).
-/
import Derived.Test.YtlpiamlgibomhaaGreatSM38
import Derived.Test.YtlpiamlgibomhaaGreatSO2
set_option linter.unusedSimpArgs false
set_option linter.unusedVariables false
namespace Go.Proofs.YtlpiamlgibomhaaGreat
open Go.Vl Go.RowKit Go.Dg
theorem Qhr (os:Os) (started:os.Started) (H:Type) (enc:TypeId×Value→H):
  ReturnsInHanded {} Tryz.checked os 9 .any (Rows.segmentCommonSpec.pre6 enc Tryz.prog Tryz.f9 Rows.segmentCommonRow.domain false) (Rows.segmentCommonSpec.post enc Tryz.prog Tryz.f9 false true false false):=by
 refine Q0l (C:=Tryz.checked) [.slc segT,.slc segT] own started (by kernel_rfl) Tryz.func9
  (ChangeSpec.witness6 (enc:=enc) (C:=Tryz.checked) false ⟨#[], #[.slice none 0 0,.slice none 0 0],[]⟩ 8 (by kernel_rfl) (by kernel_rfl) (by kernel_rfl) (by kernel_rfl))
  Zmz rfl (tb:=4) (by kernel_rfl) (by kernel_rfl) (by kernel_rfl) (by kernel_rfl) ?_ (by kernel_rfl) (by kernel_rfl) ?_
 ·intro ds hd
  match ds,hd with
  | [d1,d2],_=>rfl
 ·rintro pvs ⟨d1,_,rfl,h1,d2,_,rfl,h2,rfl⟩
  obtain⟨n1,e1,b1⟩:=Qr4 h1
  obtain⟨n2,e2,b2⟩:=Qr4 h2
  rw [e1,e2]
  exact Qmd n1 n2 b1 b2
theorem SegmentCommon_holds:Rows.SegmentCommonSaid:=
 OpenClaim.holds_of_wide (p:=Tryz.pinned) (s:=Rows.segmentCommonSpec) (c:=Rows.segmentCommonRow) 9 Tryz.f9 rfl rfl rfl rfl rfl rfl rfl ⟨rfl,rfl,rfl,rfl,rfl⟩ rfl rfl rfl rfl rfl (by kernel_rfl) Tryz.func9 (by kernel_rfl)
  (of_decide_eq_true (by kernel_rfl)) (by unfold Func.isWrapper;first|(rw [if_pos (by decide+kernel)];kernel_rfl)|(rw [if_neg (by decide+kernel)];exact⟨rfl,rfl⟩))
  (fun os started H enc _=>Qhr os started H enc)
end Go.Proofs.YtlpiamlgibomhaaGreat
