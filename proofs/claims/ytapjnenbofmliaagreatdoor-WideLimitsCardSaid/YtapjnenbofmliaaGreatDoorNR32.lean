/-
  NR32 (merged for the claim).
-/
import Derived.Test.YtapjnenbofmliaaGreatDoorNT11
import Derived.Test.YtapjnenbofmliaaGreatDoorNR30
set_option linter.unusedSimpArgs false
set_option linter.unusedVariables false
namespace Go.Proofs.YtapjnenbofmliaaGreatDoor
open Go.Vl Go.RowKit
theorem Qho (os:Os) (started:os.Started) (H:Type) (enc:TypeId×Value→H):
  ReturnsInHanded {} Tryz.checked os 4 .any (fun w args=>(Rows.wideLimitsSpec.pre enc Tryz.prog Tryz.f4 [] false w args∧laidMetH Tryz.prog Qtu w)∧sizedMet enc Tryz.prog Tryz.f4 (OpenSpec.ofChange Rows.wideLimitsSpec) false w args)
   (Rows.wideLimitsSpec.post enc Tryz.prog Tryz.f4 false true false false):=by
 refine Qkw (C:=Tryz.checked) [.int .i64,.bool] own started (by kernel_rfl) Tryz.func4
  (ChangeSpec.witness_shaped (enc:=enc) (C:=Tryz.checked) (os:=os) (X:=fun w _=>laidMetH Tryz.prog Qtu w) false (World.doorLaid Tryz.prog 62 os) #[.int .i64 0,.bool false] 8 rfl (World.shaped_of_RefB (by kernel_rfl) (by kernel_rfl)) (by kernel_rfl) (by kernel_rfl) (by kernel_rfl) (Q2l os _))
  Q83 rfl (tb:=4) (by kernel_rfl) (by kernel_rfl) (by kernel_rfl) (by kernel_rfl) ?_ (by kernel_rfl) hlay ?_
 ·intro ds hd
  match ds,hd with
  | [d1,d2],_=>rfl
 ·rintro pvs ⟨c1,_,rfl,h1,c2,_,rfl,h2,rfl⟩;obtain⟨n1,e1,w1⟩:=Q2m h1;have b1:=Qtv w1;obtain⟨n2,e2⟩:=Qwt h2;rw [e1,e2];exact Qoe n1 b1.1 b1.2 n2
theorem Qkx:Rows.WideLimitsSaid:=
 OpenClaim.holds_of_wide (p:=Tryz.pinned) (s:=Rows.wideLimitsSpec) (c:=Rows.wideLimitsRow) 4 Tryz.f4 rfl rfl rfl rfl rfl rfl rfl ⟨rfl,rfl,rfl,rfl,rfl⟩ rfl rfl rfl rfl rfl (by kernel_rfl) Tryz.func4 (by kernel_rfl)
  (of_decide_eq_true (by kernel_rfl)) (by unfold Func.isWrapper;first|(rw [if_pos (by decide+kernel)];kernel_rfl)|(rw [if_neg (by decide+kernel)];exact⟨rfl,rfl⟩))
  (fun os started H enc _=>Qho os started H enc)
theorem WideLimits_holds:Rows.WideLimitsCardSaid:=
 Claim7.holds_tied_plain_at .later [] [.data,.data,.data,.sentinel,.sentinel] true (true,"5b3e2a32594106401b5934f6d08eba7a4ed11b629f2f1ded1f742e244509feaa") true
  Qkx (fun _ h=>by cases h) (by kernel_rfl) (fun _ h=>by cases h) wideLimits_row_tie rfl ⟨rfl,rfl⟩ (by kernel_rfl) rfl
  (fun f fn hf hfn=>by
   obtain rfl:f=4:=Option.some.inj ((show Tryz.prog.funcNamed "skylantern/skylanternlaw01.WideLimits" =some 4 by kernel_rfl).symm.trans hf) |>.symm
   obtain rfl:fn=Tryz.f4:=(Option.some.inj (Tryz.func4.symm.trans hfn)).symm;exact⟨by kernel_rfl,fun j t ht=>by
    have hp:Tryz.f4.params.toList=[3,4]:=by kernel_rfl
    have hm:t∈Tryz.f4.params.toList:=by rw [Array.mem_toList_iff];exact Array.mem_of_getElem? ht
    rw [hp]at hm;have hall:([3,4].all fun u=> !Tryz.prog.wantsStandIn u)=true:=by kernel_rfl
    exact(show Tryz.prog.wantsStandIn t=false by simpa using List.all_eq_true.1 hall t hm)⟩)
  (by kernel_rfl)
end Go.Proofs.YtapjnenbofmliaaGreatDoor
