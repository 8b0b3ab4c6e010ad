/-
  SY10 (merged for the claim).
-/
import Derived.Test.YtlpiamlgibomhaaGreatSM29
set_option linter.unusedSimpArgs false
set_option linter.unusedVariables false
namespace Go.Proofs.YtlpiamlgibomhaaGreat
open Go.Vl Go.RowKit Go.Dg
theorem Qhk (os:Os) (started:os.Started) (H:Type) (enc:TypeId×Value→H):
  ReturnsInHanded {} Tryz.checked os 3 .any (Rows.segmentValidSpec.pre6 enc Tryz.prog Tryz.f3 Rows.segmentValidRow.domain false) (Rows.segmentValidSpec.post enc Tryz.prog Tryz.f3 false true false false):=by
 refine Qyu (C:=Tryz.checked) [segT] own started (by kernel_rfl) Tryz.func3
  (ChangeSpec.witness6 (enc:=enc) (C:=Tryz.checked) false ⟨#[], #[Zje],[]⟩ 8 (by kernel_rfl) (by kernel_rfl) (by kernel_rfl) (by kernel_rfl))
  Zjc rfl (tb:=4) (by kernel_rfl) (by kernel_rfl) (by kernel_rfl) (by kernel_rfl) ?_ (by kernel_rfl) (by kernel_rfl) ?_
 ·intro ds hd
  match ds,hd with
  | [d1],_=>rfl
 ·rintro pvs ⟨d1,_,rfl,h1,rfl⟩
  obtain⟨n1,e1,b1⟩:=Zbz h1
  rw [e1]
  exact Qmm n1 b1
theorem SegmentValid_holds:Rows.SegmentValidSaid:=
 OpenClaim.holds_of_wide (p:=Tryz.pinned) (s:=Rows.segmentValidSpec) (c:=Rows.segmentValidRow) 3 Tryz.f3 rfl rfl rfl rfl rfl rfl rfl ⟨rfl,rfl,rfl,rfl,rfl⟩ rfl rfl rfl rfl rfl (by kernel_rfl) Tryz.func3 (by kernel_rfl)
  (of_decide_eq_true (by kernel_rfl)) (by unfold Func.isWrapper;first|(rw [if_pos (by decide+kernel)];kernel_rfl)|(rw [if_neg (by decide+kernel)];exact⟨rfl,rfl⟩))
  (fun os started H enc _=>Qhk os started H enc)
end Go.Proofs.YtlpiamlgibomhaaGreat
