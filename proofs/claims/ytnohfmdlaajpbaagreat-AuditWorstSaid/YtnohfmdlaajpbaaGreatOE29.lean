/-
  OE29 (merged for the claim).
-/
import Derived.Test.YtnohfmdlaajpbaaGreatOE24
import Derived.Test.YtnohfmdlaajpbaaGreatOE28
set_option linter.unusedSimpArgs false
set_option linter.unusedVariables false
namespace Go.Proofs.YtnohfmdlaajpbaaGreat
open Go.Vl Go.RowKit Go.Dg
theorem Qjo (os:Os) (started:os.Started) (H:Type) (enc:TypeId×Value→H):
  ReturnsInHanded {} Tryz.checked os 3 .any (Rows.auditWorstSpec.pre6 enc Tryz.prog Tryz.f3 Rows.auditWorstRow.domain false) (Rows.auditWorstSpec.post enc Tryz.prog Tryz.f3 false true false false):=by
 refine Q2f (C:=Tryz.checked) [Zdj,axsT,.int .i64,.int .i64] own started (by kernel_rfl) Tryz.func3
  (ChangeSpec.witness6 (enc:=enc) (C:=Tryz.checked) false ⟨#[], #[Zwe,.slice none 0 0,.int .i64 0,.int .i64 0],[]⟩ 8 (by kernel_rfl) (by kernel_rfl) (by kernel_rfl) (by kernel_rfl))
  Zo0 rfl (tb:=4) (by kernel_rfl) (by kernel_rfl) (by kernel_rfl) (by kernel_rfl) ?_ (by kernel_rfl) Z0o ?_
 ·intro ds hd
  match ds,hd with
  | [d1,d2,d3,d4],_=>rfl
 ·rintro pvs ⟨d1,_,rfl,h1,d2,_,rfl,h2,d3,_,rfl,h3,d4,_,rfl,h4,rfl⟩;obtain⟨p1,e1⟩:=Q4j h1;obtain⟨l2,e2,m2⟩:=Zdm h2;obtain⟨n3,e3⟩:=Qxk h3;obtain⟨n4,e4⟩:=Qxk h4;rw [e1,e2,e3,e4];exact Zo8 p1 l2 m2 n3 n4
theorem AuditWorst_holds:Rows.AuditWorstSaid:=
 OpenClaim.holds_of_wide (p:=Tryz.pinned) (s:=Rows.auditWorstSpec) (c:=Rows.auditWorstRow) 3 Tryz.f3 rfl rfl rfl rfl rfl rfl rfl ⟨rfl,rfl,rfl,rfl,rfl⟩ rfl rfl rfl rfl rfl (by kernel_rfl) Tryz.func3 (by kernel_rfl)
  (of_decide_eq_true (by kernel_rfl)) (by unfold Func.isWrapper;first|(rw [if_pos (by decide+kernel)];kernel_rfl)|(rw [if_neg (by decide+kernel)];exact⟨rfl,rfl⟩))
  (fun os started H enc _=>Qjo os started H enc)
end Go.Proofs.YtnohfmdlaajpbaaGreat
