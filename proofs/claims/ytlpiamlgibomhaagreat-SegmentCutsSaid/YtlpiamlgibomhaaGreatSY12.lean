/-
  SY12 (merged for the claim).
-/
import Derived.Test.YtlpiamlgibomhaaGreatSM31
set_option linter.unusedSimpArgs false
set_option linter.unusedVariables false
namespace Go.Proofs.YtlpiamlgibomhaaGreat
open Go.Vl Go.RowKit Go.Dg
theorem Qio (os:Os) (started:os.Started) (H:Type) (enc:TypeId×Value→H):
  ReturnsInHanded {} Tryz.checked os 5 .any (Rows.segmentCutsSpec.pre6 enc Tryz.prog Tryz.f5 Rows.segmentCutsRow.domain false) (Rows.segmentCutsSpec.post enc Tryz.prog Tryz.f5 false true false false):=by
 refine Qzo (C:=Tryz.checked) [.slc segT,.int .i64,.int .i64] own started (by kernel_rfl) Tryz.func5
  (ChangeSpec.witness6 (enc:=enc) (C:=Tryz.checked) false ⟨#[], #[.slice none 0 0,.int .i64 0,.int .i64 0],[]⟩ 8 (by kernel_rfl) (by kernel_rfl) (by kernel_rfl) (by kernel_rfl))
  Zlh rfl (tb:=4) (by kernel_rfl) (by kernel_rfl) (by kernel_rfl) (by kernel_rfl) ?_ (by kernel_rfl) (by kernel_rfl) ?_
 ·intro ds hd
  match ds,hd with
  | [d1,d2,d3],_=>rfl
 ·rintro pvs ⟨d1,_,rfl,h1,d2,_,rfl,h2,d3,_,rfl,h3,rfl⟩
  obtain⟨n1,e1,b1⟩:=Q52 h1
  obtain⟨n2,e2,b2,c2⟩:=Qps h2
  obtain⟨n3,e3,b3,c3⟩:=Qps h3
  rw [e1,e2,e3]
  exact Qpc n1 b1 n2 b2 c2 n3 b3 c3
theorem SegmentCuts_holds:Rows.SegmentCutsSaid:=
 OpenClaim.holds_of_wide (p:=Tryz.pinned) (s:=Rows.segmentCutsSpec) (c:=Rows.segmentCutsRow) 5 Tryz.f5 rfl rfl rfl rfl rfl rfl rfl ⟨rfl,rfl,rfl,rfl,rfl⟩ rfl rfl rfl rfl rfl (by kernel_rfl) Tryz.func5 (by kernel_rfl)
  (of_decide_eq_true (by kernel_rfl)) (by unfold Func.isWrapper;first|(rw [if_pos (by decide+kernel)];kernel_rfl)|(rw [if_neg (by decide+kernel)];exact⟨rfl,rfl⟩))
  (fun os started H enc _=>Qio os started H enc)
end Go.Proofs.YtlpiamlgibomhaaGreat
