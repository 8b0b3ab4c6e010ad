/-
  OE23 (merged for the claim).
-/
import Derived.Test.YtnohfmdlaajpbaaGreatOE22
set_option linter.unusedSimpArgs false
set_option linter.unusedVariables false
namespace Go.Proofs.YtnohfmdlaajpbaaGreat
open Go.Vl Go.RowKit Go.Dg
theorem Qg9 (os:Os) (started:os.Started) (H:Type) (enc:TypeId×Value→H):
  ReturnsInHanded {} Tryz.checked os 4 .any (Rows.auditDeviatesSpec.pre6 enc Tryz.prog Tryz.f4 Rows.auditDeviatesRow.domain false) (Rows.auditDeviatesSpec.post enc Tryz.prog Tryz.f4 false true false false):=by
 refine Q11 (C:=Tryz.checked) [Zcz,axsT,.int .i64,Zc0] own started (by kernel_rfl) Tryz.func4
  (ChangeSpec.witness6 (enc:=enc) (C:=Tryz.checked) false ⟨#[], #[Zvm,.slice none 0 0,.int .i64 0,Zc4],[]⟩ 8 (by kernel_rfl) (by kernel_rfl) (by kernel_rfl) (by kernel_rfl))
  Zog rfl (tb:=4) (by kernel_rfl) (by kernel_rfl) (by kernel_rfl) (by kernel_rfl) ?_ (by kernel_rfl) Zzv ?_
 ·intro ds hd
  match ds,hd with
  | [d1,d2,d3,d4],_=>rfl
 ·rintro pvs ⟨d1,_,rfl,h1,d2,_,rfl,h2,d3,_,rfl,h3,d4,_,rfl,h4,rfl⟩;obtain⟨p1,e1⟩:=Q34 h1;obtain⟨l2,e2,m2⟩:=Zc3 h2;obtain⟨n3,e3⟩:=Zcy h3;obtain⟨a4,b4,e4⟩:=Q35 h4;rw [e1,e2,e3,e4];exact Qyv p1 l2 m2 n3 a4 b4
theorem AuditDeviates_holds:Rows.AuditDeviatesSaid:=
 OpenClaim.holds_of_wide (p:=Tryz.pinned) (s:=Rows.auditDeviatesSpec) (c:=Rows.auditDeviatesRow) 4 Tryz.f4 rfl rfl rfl rfl rfl rfl rfl ⟨rfl,rfl,rfl,rfl,rfl⟩ rfl rfl rfl rfl rfl (by kernel_rfl) Tryz.func4 (by kernel_rfl)
  (of_decide_eq_true (by kernel_rfl)) (by unfold Func.isWrapper;first|(rw [if_pos (by decide+kernel)];kernel_rfl)|(rw [if_neg (by decide+kernel)];exact⟨rfl,rfl⟩))
  (fun os started H enc _=>Qg9 os started H enc)
end Go.Proofs.YtnohfmdlaajpbaaGreat
