/-
  TH3 (merged for the claim).
-/
import Derived.Test.YtobaaecbdlhpdaaGreatTH2
import Derived.Test.YtobaaecbdlhpdaaGreatRows
import Derived.Test.YtobaaecbdlhpdaaGreatUV
set_option linter.unusedSimpArgs false
set_option linter.unusedVariables false
namespace Go.Proofs.YtobaaecbdlhpdaaGreat
open Go.Vl Go.RowKit Go.Dg
theorem own:ownKnob Tryz.prog.godebug=none:=by kernel_rfl
theorem Zgv:laidOutB Tryz.prog=true:=by kernel_rfl
theorem Zp7:Tryz.prog.globalNamed Quv=none∧Tryz.prog.globalNamed Q5l=none:=⟨by kernel_rfl,by kernel_rfl⟩
theorem Qk7 {c:List PV} (h:Qc3 (.int .i64) c): ∃n:Int,TT.mk (.int .i64) c= .int .i64 n:=by
 simp only [Qc3]at h;obtain⟨x,rfl,hx⟩:=h;exact⟨x,rfl⟩
def vecT:TT:= .agg [.int .i64,.int .i64,.int .i64]
theorem Qwp {c:List PV} (h:Qc3 vecT c): ∃v:V3,vecT.mk c=v3PV v:=by
 simp only [vecT,Qc3,Qgy]at h;obtain⟨_,_,rfl,⟨x,rfl,_⟩,_,_,rfl,⟨y,rfl,_⟩,_,_,rfl,⟨z,rfl,_⟩,rfl⟩:=h;exact⟨⟨x,y,z⟩,rfl⟩
def Zna:Value:= .agg #[.int .i64 0,.int .i64 0,.int .i64 0]
theorem Qjh (os:Os) (started:os.Started) (H:Type) (enc:TypeId×Value→H):
  ReturnsInHanded {} Tryz.checked os 3 .any (Rows.glideHoldsSpec.pre6 enc Tryz.prog Tryz.f3 Rows.glideHoldsRow.domain false) (Rows.glideHoldsSpec.post enc Tryz.prog Tryz.f3 false true false false):=by
 refine Q0o (C:=Tryz.checked) [vecT,vecT,.int .i64,.int .i64,.int .i64,.int .i64] own started (by kernel_rfl) Tryz.func3
  (ChangeSpec.witness6 (enc:=enc) (C:=Tryz.checked) false ⟨#[], #[Zna,Zna,.int .i64 0,.int .i64 0,.int .i64 0,.int .i64 0],[]⟩ 8 (by kernel_rfl) (by kernel_rfl) (by kernel_rfl) (by kernel_rfl))
  Zgv rfl (tb:=4) (by kernel_rfl) (by kernel_rfl) (by kernel_rfl) (by kernel_rfl) ?_ (by kernel_rfl) Zp7 ?_
 ·intro ds hd
  match ds,hd with
  | [d1,d2,d3,d4,d5,d6],_=>rfl
 ·rintro pvs ⟨d1,_,rfl,h1,d2,_,rfl,h2,d3,_,rfl,h3,d4,_,rfl,h4,d5,_,rfl,h5,d6,_,rfl,h6,rfl⟩;obtain⟨a,e1⟩:=Qwp h1;obtain⟨b,e2⟩:=Qwp h2;obtain⟨r,e3⟩:=Qk7 h3;obtain⟨f,e4⟩:=Qk7 h4;obtain⟨t,e5⟩:=Qk7 h5;obtain⟨T,e6⟩:=Qk7 h6;rw [e1,e2,e3,e4,e5,e6];exact Qrt a b r f t T
theorem GlideHolds_holds:Rows.GlideHoldsSaid:=
 OpenClaim.holds_of_wide (p:=Tryz.pinned) (s:=Rows.glideHoldsSpec) (c:=Rows.glideHoldsRow) 3 Tryz.f3 rfl rfl rfl rfl rfl rfl rfl ⟨rfl,rfl,rfl,rfl,rfl⟩ rfl rfl rfl rfl rfl (by kernel_rfl) Tryz.func3 (by kernel_rfl)
  (of_decide_eq_true (by kernel_rfl)) (by unfold Func.isWrapper;first|(rw [if_pos (by decide+kernel)];kernel_rfl)|(rw [if_neg (by decide+kernel)];exact⟨rfl,rfl⟩))
  (fun os started H enc _=>Qjh os started H enc)
end Go.Proofs.YtobaaecbdlhpdaaGreat
