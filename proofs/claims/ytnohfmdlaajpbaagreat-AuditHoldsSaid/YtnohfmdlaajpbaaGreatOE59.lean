/-
  OE59 (merged for the claim).
-/
import Derived.Test.YtnohfmdlaajpbaaGreatOE31
import Derived.Test.YtnohfmdlaajpbaaGreatOE58
set_option linter.unusedSimpArgs false
set_option linter.unusedVariables false
namespace Go.Proofs.YtnohfmdlaajpbaaGreat
open Go.Vl Go.RowKit Go.Dg
theorem Qjy (os:Os) (started:os.Started) (H:Type) (enc:TypeId×Value→H):
  ReturnsInHanded {} Tryz.checked os 7 .any (Rows.auditHoldsSpec.pre6 enc Tryz.prog Tryz.f7 Rows.auditHoldsRow.domain false) (Rows.auditHoldsSpec.post enc Tryz.prog Tryz.f7 false true false false):=by
 refine Qpn (C:=Tryz.checked) [Q5h,axsT,.int .i64,Q5i,.int .i64,.int .i64,.int .u8] own started (by kernel_rfl) Tryz.func7
  (ChangeSpec.witness6 (enc:=enc) (C:=Tryz.checked) false ⟨#[], #[Zoc,.slice none 0 0,.int .i64 0,Qx6,.int .i64 0,.int .i64 0,.int .u8 0],[]⟩ 8 (by kernel_rfl) (by kernel_rfl) (by kernel_rfl) (by kernel_rfl))
  Q5e rfl (tb:=4) (by kernel_rfl) (by kernel_rfl) (by kernel_rfl) (by kernel_rfl) ?_ (by kernel_rfl) Zxk ?_
 ·intro ds hd
  match ds,hd with
  | [d1,d2,d3,d4,d5,d6,d7],_=>rfl
 ·rintro pvs ⟨d1,_,rfl,h1,d2,_,rfl,h2,d3,_,rfl,h3,d4,_,rfl,h4,d5,_,rfl,h5,d6,_,rfl,h6,d7,_,rfl,h7,rfl⟩;obtain⟨p1,e1⟩:=Qsi h1;obtain⟨l2,e2,m2⟩:=Qx5 h2;obtain⟨n3,e3⟩:=Qlp h3;obtain⟨a4,b4,e4⟩:=Qsj h4;obtain⟨n5,e5⟩:=Qlp h5;obtain⟨n6,e6⟩:=Qlp h6;obtain⟨n7,e7,b7,c7⟩:=Qu6 h7;rw [e1,e2,e3,e4,e5,e6,e7];exact Qz6 p1 l2 m2 n3 a4 b4 n5 n6 n7 b7 c7
theorem AuditHolds_holds:Rows.AuditHoldsSaid:=
 OpenClaim.holds_of_wide (p:=Tryz.pinned) (s:=Rows.auditHoldsSpec) (c:=Rows.auditHoldsRow) 7 Tryz.f7 rfl rfl rfl rfl rfl rfl rfl ⟨rfl,rfl,rfl,rfl,rfl⟩ rfl rfl rfl rfl rfl (by kernel_rfl) Tryz.func7 (by kernel_rfl)
  (of_decide_eq_true (by kernel_rfl)) (by unfold Func.isWrapper;first|(rw [if_pos (by decide+kernel)];kernel_rfl)|(rw [if_neg (by decide+kernel)];exact⟨rfl,rfl⟩))
  (fun os started H enc _=>Qjy os started H enc)
end Go.Proofs.YtnohfmdlaajpbaaGreat
