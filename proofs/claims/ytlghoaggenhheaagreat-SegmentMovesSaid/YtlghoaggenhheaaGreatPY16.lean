/-
  PY16 (merged for the claim).
-/
import Derived.Test.YtlghoaggenhheaaGreatPM58
import Derived.Test.YtlghoaggenhheaaGreatPM30
set_option linter.unusedSimpArgs false
set_option linter.unusedVariables false
namespace Go.Proofs.YtlghoaggenhheaaGreat
open Go.Vl Go.RowKit
def vecT:TT:= .agg [.int .i64,.int .i64,.int .i64]
theorem Zjm {c:List PV} (h:Qco vecT c): ∃x y z:Int,vecT.mk c= .agg [.int .i64 x,.int .i64 y,.int .i64 z]:=by
 simp only [vecT,Qco,Qhi]at h;obtain⟨_,_,rfl,⟨x,rfl,_⟩,_,_,rfl,⟨y,rfl,_⟩,_,_,rfl,⟨z,rfl,_⟩,rfl⟩:=h;exact⟨x,y,z,rfl⟩
def Zq5:Value:= .agg #[.int .i64 0,.int .i64 0,.int .i64 0]
theorem Qjk (os:Os) (started:os.Started) (H:Type) (enc:TypeId×Value→H):
  ReturnsInHanded {} Tryz.checked os 4 .any (Rows.segmentMovesSpec.pre6 enc Tryz.prog Tryz.f4 Rows.segmentMovesRow.domain false) (Rows.segmentMovesSpec.post enc Tryz.prog Tryz.f4 false true false false):=by
 refine Qrr (C:=Tryz.checked) [.slc segT,.int .i64,vecT] own started (by kernel_rfl) Tryz.func4
  (ChangeSpec.witness6 (enc:=enc) (C:=Tryz.checked) false ⟨#[], #[.slice none 0 0,.int .i64 0,Zq5],[]⟩ 8 (by kernel_rfl) (by kernel_rfl) (by kernel_rfl) (by kernel_rfl))
  Zas rfl (tb:=4) (by kernel_rfl) (by kernel_rfl) (by kernel_rfl) (by kernel_rfl) ?_ (by kernel_rfl) ⟨by kernel_rfl,by kernel_rfl⟩ ?_
 ·intro ds hd
  match ds,hd with
  | [d1,d2,d3],_=>rfl
 ·rintro pvs ⟨d1,_,rfl,h1,d2,_,rfl,h2,d3,_,rfl,h3,rfl⟩;obtain⟨n1,e1,b1⟩:=Qot h1;obtain⟨n2,e2,b2,c2⟩:=Qs8 h2;obtain⟨x3,y3,z3,e3⟩:=Zjm h3;rw [e1,e2,e3];exact Qpq n1 b1 n2 b2 c2 x3 y3 z3
theorem SegmentMoves_holds:Rows.SegmentMovesSaid:=
 OpenClaim.holds_of_wide (p:=Tryz.pinned) (s:=Rows.segmentMovesSpec) (c:=Rows.segmentMovesRow) 4 Tryz.f4 rfl rfl rfl rfl rfl rfl rfl ⟨rfl,rfl,rfl,rfl,rfl⟩ rfl rfl rfl rfl rfl (by kernel_rfl) Tryz.func4 (by kernel_rfl)
  (of_decide_eq_true (by kernel_rfl)) (by unfold Func.isWrapper;first|(rw [if_pos (by decide+kernel)];kernel_rfl)|(rw [if_neg (by decide+kernel)];exact⟨rfl,rfl⟩))
  (fun os started H enc _=>Qjk os started H enc)
end Go.Proofs.YtlghoaggenhheaaGreat
