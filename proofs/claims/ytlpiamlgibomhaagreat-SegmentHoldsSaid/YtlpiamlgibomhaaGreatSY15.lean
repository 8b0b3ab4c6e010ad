/-
  SY15 (merged for the claim).
-/
import Derived.Test.YtlpiamlgibomhaaGreatSM41
import Derived.Test.YtlpiamlgibomhaaGreatSO2
set_option linter.unusedSimpArgs false
set_option linter.unusedVariables false
namespace Go.Proofs.YtlpiamlgibomhaaGreat
open Go.Vl Go.RowKit Go.Dg
theorem Qik (os:Os) (started:os.Started) (H:Type) (enc:TypeId×Value→H):
  ReturnsInHanded {} Tryz.checked os 10 .any (Rows.segmentHoldsSpec.pre6 enc Tryz.prog Tryz.f10 Rows.segmentHoldsRow.domain false) (Rows.segmentHoldsSpec.post enc Tryz.prog Tryz.f10 false true false false):=by
 refine Q1w (C:=Tryz.checked) [.slc segT,.slc segT,.int .i64,.int .i64,.int .i64] own started (by kernel_rfl) Tryz.func10
  (ChangeSpec.witness6 (enc:=enc) (C:=Tryz.checked) false ⟨#[], #[.slice none 0 0,.slice none 0 0,.int .i64 0,.int .i64 0,.int .i64 0],[]⟩ 8 (by kernel_rfl) (by kernel_rfl) (by kernel_rfl) (by kernel_rfl))
  Zoo rfl (tb:=4) (by kernel_rfl) (by kernel_rfl) (by kernel_rfl) (by kernel_rfl) ?_ (by kernel_rfl) (by kernel_rfl) ?_
 ·intro ds hd
  match ds,hd with
  | [d1,d2,d3,d4,d5],_=>rfl
 ·rintro pvs ⟨d1,_,rfl,h1,d2,_,rfl,h2,d3,_,rfl,h3,d4,_,rfl,h4,d5,_,rfl,h5,rfl⟩
  obtain⟨n1,e1,b1⟩:=Qs7 h1
  obtain⟨n2,e2,b2⟩:=Qs7 h2
  obtain⟨n3,e3,b3,c3⟩:=Qma h3
  obtain⟨n4,e4,b4,c4⟩:=Qma h4
  obtain⟨n5,e5,b5,c5⟩:=Qma h5
  rw [e1,e2,e3,e4,e5]
  exact Qop n1 n2 b1 b2 n3 n4 n5 ⟨b3,c3⟩ ⟨b4,c4⟩ ⟨b5,c5⟩
theorem SegmentHolds_holds:Rows.SegmentHoldsSaid:=
 OpenClaim.holds_of_wide (p:=Tryz.pinned) (s:=Rows.segmentHoldsSpec) (c:=Rows.segmentHoldsRow) 10 Tryz.f10 rfl rfl rfl rfl rfl rfl rfl ⟨rfl,rfl,rfl,rfl,rfl⟩ rfl rfl rfl rfl rfl (by kernel_rfl) Tryz.func10 (by kernel_rfl)
  (of_decide_eq_true (by kernel_rfl)) (by unfold Func.isWrapper;first|(rw [if_pos (by decide+kernel)];kernel_rfl)|(rw [if_neg (by decide+kernel)];exact⟨rfl,rfl⟩))
  (fun os started H enc _=>Qik os started H enc)
end Go.Proofs.YtlpiamlgibomhaaGreat
