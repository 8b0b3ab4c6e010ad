/-
  OE39 (merged for the claim).
-/
import Derived.Test.YtnohfmdlaajpbaaGreatOE31
import Derived.Test.YtnohfmdlaajpbaaGreatOE38
set_option linter.unusedSimpArgs false
set_option linter.unusedVariables false
namespace Go.Proofs.YtnohfmdlaajpbaaGreat
open Go.Vl Go.RowKit Go.Dg
theorem Qjm (os:Os) (started:os.Started) (H:Type) (enc:TypeId×Value→H):
  ReturnsInHanded {} Tryz.checked os 6 .any (Rows.auditFindsSpec.pre6 enc Tryz.prog Tryz.f6 Rows.auditFindsRow.domain false) (Rows.auditFindsSpec.post enc Tryz.prog Tryz.f6 false true false false):=by
 refine Q2d (C:=Tryz.checked) [Zdj,axsT,.int .i64,Zdk] own started (by kernel_rfl) Tryz.func6
  (ChangeSpec.witness6 (enc:=enc) (C:=Tryz.checked) false ⟨#[], #[Zwd,.slice none 0 0,.int .i64 0,Zdo],[]⟩ 8 (by kernel_rfl) (by kernel_rfl) (by kernel_rfl) (by kernel_rfl))
  Zo4 rfl (tb:=4) (by kernel_rfl) (by kernel_rfl) (by kernel_rfl) (by kernel_rfl) ?_ (by kernel_rfl) Z0m ?_
 ·intro ds hd
  match ds,hd with
  | [d1,d2,d3,d4],_=>rfl
 ·rintro pvs ⟨d1,_,rfl,h1,d2,_,rfl,h2,d3,_,rfl,h3,d4,_,rfl,h4,rfl⟩;obtain⟨p1,e1⟩:=Q4g h1;obtain⟨l2,e2,m2⟩:=Zdn h2;obtain⟨n3,e3⟩:=Zdi h3;obtain⟨a4,b4,e4⟩:=Q4h h4;rw [e1,e2,e3,e4];exact Qy6 p1 l2 m2 n3 a4 b4
theorem AuditFinds_holds:Rows.AuditFindsSaid:=
 OpenClaim.holds_of_wide (p:=Tryz.pinned) (s:=Rows.auditFindsSpec) (c:=Rows.auditFindsRow) 6 Tryz.f6 rfl rfl rfl rfl rfl rfl rfl ⟨rfl,rfl,rfl,rfl,rfl⟩ rfl rfl rfl rfl rfl (by kernel_rfl) Tryz.func6 (by kernel_rfl)
  (of_decide_eq_true (by kernel_rfl)) (by unfold Func.isWrapper;first|(rw [if_pos (by decide+kernel)];kernel_rfl)|(rw [if_neg (by decide+kernel)];exact⟨rfl,rfl⟩))
  (fun os started H enc _=>Qjm os started H enc)
end Go.Proofs.YtnohfmdlaajpbaaGreat
