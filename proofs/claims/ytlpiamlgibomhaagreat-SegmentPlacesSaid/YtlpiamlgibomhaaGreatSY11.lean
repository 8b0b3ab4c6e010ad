/-
  SY11 (merged for the claim).
-/
import Derived.Test.YtlpiamlgibomhaaGreatSM29
import Derived.Test.YtlpiamlgibomhaaGreatSY9
set_option linter.unusedSimpArgs false
set_option linter.unusedVariables false
namespace Go.Proofs.YtlpiamlgibomhaaGreat
open Go.Vl Go.RowKit Go.Dg
theorem Qg5 (os:Os) (started:os.Started) (H:Type) (enc:TypeId×Value→H):
  ReturnsInHanded {} Tryz.checked os 4 .any (Rows.segmentPlacesSpec.pre6 enc Tryz.prog Tryz.f4 Rows.segmentPlacesRow.domain false) (Rows.segmentPlacesSpec.post enc Tryz.prog Tryz.f4 false true false false):=by
 refine Qy5 (C:=Tryz.checked) [.slc segT,.int .i64] own started (by kernel_rfl) Tryz.func4
  (ChangeSpec.witness6 (enc:=enc) (C:=Tryz.checked) false ⟨#[], #[.slice none 0 0,.int .i64 0],[]⟩ 8 (by kernel_rfl) (by kernel_rfl) (by kernel_rfl) (by kernel_rfl))
  Zkj rfl (tb:=4) (by kernel_rfl) (by kernel_rfl) (by kernel_rfl) (by kernel_rfl) ?_ (by kernel_rfl) (by kernel_rfl) ?_
 ·intro ds hd
  match ds,hd with
  | [d1,d2],_=>rfl
 ·rintro pvs ⟨d1,_,rfl,h1,d2,_,rfl,h2,rfl⟩
  obtain⟨n1,e1,b1⟩:=Q5e h1
  obtain⟨n2,e2,b2,c2⟩:=Qvj h2
  rw [e1,e2]
  exact Qln n1 b1 n2 b2 c2
theorem SegmentPlaces_holds:Rows.SegmentPlacesSaid:=
 OpenClaim.holds_of_wide (p:=Tryz.pinned) (s:=Rows.segmentPlacesSpec) (c:=Rows.segmentPlacesRow) 4 Tryz.f4 rfl rfl rfl rfl rfl rfl rfl ⟨rfl,rfl,rfl,rfl,rfl⟩ rfl rfl rfl rfl rfl (by kernel_rfl) Tryz.func4 (by kernel_rfl)
  (of_decide_eq_true (by kernel_rfl)) (by unfold Func.isWrapper;first|(rw [if_pos (by decide+kernel)];kernel_rfl)|(rw [if_neg (by decide+kernel)];exact⟨rfl,rfl⟩))
  (fun os started H enc _=>Qg5 os started H enc)
end Go.Proofs.YtlpiamlgibomhaaGreat
