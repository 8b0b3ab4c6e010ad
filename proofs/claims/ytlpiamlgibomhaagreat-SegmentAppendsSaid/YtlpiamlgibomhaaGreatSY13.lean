/-
  SY13 (merged for the claim).
-/
import Derived.Test.YtlpiamlgibomhaaGreatSM35
import Derived.Test.YtlpiamlgibomhaaGreatSM34
set_option linter.unusedSimpArgs false
set_option linter.unusedVariables false
namespace Go.Proofs.YtlpiamlgibomhaaGreat
open Go.Vl Go.RowKit Go.Dg
theorem Qgh (os:Os) (started:os.Started) (H:Type) (enc:TypeId×Value→H):
  ReturnsInHanded {} Tryz.checked os 6 .any (Rows.segmentAppendsSpec.pre6 enc Tryz.prog Tryz.f6 Rows.segmentAppendsRow.domain false) (Rows.segmentAppendsSpec.post enc Tryz.prog Tryz.f6 false true false false):=by
 refine Qzm (C:=Tryz.checked) [.slc segT,.slc segT,.int .i64] own started (by kernel_rfl) Tryz.func6
  (ChangeSpec.witness6 (enc:=enc) (C:=Tryz.checked) false ⟨#[], #[.slice none 0 0,.slice none 0 0,.int .i64 0],[]⟩ 8 (by kernel_rfl) (by kernel_rfl) (by kernel_rfl) (by kernel_rfl))
  Zk5 rfl (tb:=4) (by kernel_rfl) (by kernel_rfl) (by kernel_rfl) (by kernel_rfl) ?_ (by kernel_rfl) (by kernel_rfl) ?_
 ·intro ds hd
  match ds,hd with
  | [d1,d2,d3],_=>rfl
 ·rintro pvs ⟨d1,_,rfl,h1,d2,_,rfl,h2,d3,_,rfl,h3,rfl⟩
  obtain⟨n1,e1,b1⟩:=Qrh h1
  obtain⟨n2,e2,b2⟩:=Qrh h2
  obtain⟨n3,e3,b3,c3⟩:=Qv0 h3
  rw [e1,e2,e3]
  exact Qkl n1 n2 b1 b2 n3 b3 c3
theorem SegmentAppends_holds:Rows.SegmentAppendsSaid:=
 OpenClaim.holds_of_wide (p:=Tryz.pinned) (s:=Rows.segmentAppendsSpec) (c:=Rows.segmentAppendsRow) 6 Tryz.f6 rfl rfl rfl rfl rfl rfl rfl ⟨rfl,rfl,rfl,rfl,rfl⟩ rfl rfl rfl rfl rfl (by kernel_rfl) Tryz.func6 (by kernel_rfl)
  (of_decide_eq_true (by kernel_rfl)) (by unfold Func.isWrapper;first|(rw [if_pos (by decide+kernel)];kernel_rfl)|(rw [if_neg (by decide+kernel)];exact⟨rfl,rfl⟩))
  (fun os started H enc _=>Qgh os started H enc)
end Go.Proofs.YtlpiamlgibomhaaGreat
