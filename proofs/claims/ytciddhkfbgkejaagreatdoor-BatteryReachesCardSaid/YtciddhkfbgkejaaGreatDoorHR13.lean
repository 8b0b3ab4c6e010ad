/-
  HR13 (merged for the claim).
-/
import Derived.Test.YtciddhkfbgkejaaGreatDoorHR10
set_option linter.unusedSimpArgs false
set_option linter.unusedVariables false
namespace Go.Proofs.YtciddhkfbgkejaaGreatDoor
open Go.Vl Go.RowKit Go.Dg
theorem Qgu (os:Os) (started:os.Started) (H:Type) (enc:TypeId×Value→H):
  ReturnsInHanded {} Tryz.checked os 10 .any (fun w args=>(Rows.batteryReachesSpec.pre enc Tryz.prog Tryz.f10 [] false w args∧laidMetH Tryz.prog Qt8 w)∧sizedMet enc Tryz.prog Tryz.f10 (OpenSpec.ofChange Rows.batteryReachesSpec) false w args)
   (Rows.batteryReachesSpec.post enc Tryz.prog Tryz.f10 false true false false):=by
 refine Qg7 (C:=Tryz.checked) [.slc segT,batT,.slc Qsc] own started (by kernel_rfl) Tryz.func10
  (ChangeSpec.witness_shaped (enc:=enc) (C:=Tryz.checked) (os:=os) (X:=fun w _=>laidMetH Tryz.prog Qt8 w) false (World.doorLaid Tryz.prog 62 os) #[.slice none 0 0,Q3d,.slice none 0 0] 8 rfl (World.shaped_of_RefB (by kernel_rfl) (by kernel_rfl)) (by kernel_rfl) (by kernel_rfl) (by kernel_rfl) (Qws os _))
  Q29 rfl (tb:=4) (by kernel_rfl) (by kernel_rfl) (by kernel_rfl) (by kernel_rfl) ?_ (by kernel_rfl) hlay ?_
 ·intro ds hd
  match ds,hd with
  | [d1,d2,d3],_=>rfl
 ·rintro pvs ⟨c1,_,rfl,h1,c2,_,rfl,h2,c3,_,rfl,h3,rfl⟩
  obtain⟨n1,e1,b1⟩:=Q3c h1
  obtain⟨n2,e2,b2⟩:=Qwt h2
  obtain⟨n3,e3,b3⟩:=Qyc h3
  rw [e1,e2,e3]
  exact Qkz n1 n2 n3 b1 b3
theorem Qiu:Rows.BatteryReachesSaid:=
 OpenClaim.holds_of_wide (p:=Tryz.pinned) (s:=Rows.batteryReachesSpec) (c:=Rows.batteryReachesRow) 10 Tryz.f10 rfl rfl rfl rfl rfl rfl rfl ⟨rfl,rfl,rfl,rfl,rfl⟩ rfl rfl rfl rfl rfl (by kernel_rfl) Tryz.func10 (by kernel_rfl)
  (of_decide_eq_true (by kernel_rfl)) (by unfold Func.isWrapper;first|(rw [if_pos (by decide+kernel)];kernel_rfl)|(rw [if_neg (by decide+kernel)];exact⟨rfl,rfl⟩))
  (fun os started H enc _=>Qgu os started H enc)
theorem BatteryReaches_holds:Rows.BatteryReachesCardSaid:=
 Claim7.holds_tied_plain_at .later [] [.data,.data] true (true,"187061ddf91d41f0f650930deca635a48c1dbd8ca1bd93a20a3f9822ee6e60b5") false
  Qiu (fun _ h=>by cases h) (by kernel_rfl) (fun _ h=>by cases h) batteryReaches_row_tie rfl ⟨rfl,rfl⟩ (by kernel_rfl) rfl
  (fun f fn hf hfn=>by
   obtain rfl:f=10:=Option.some.inj ((show Tryz.prog.funcNamed "skylantern/skylanternlaw21.BatteryReaches" =some 10 by kernel_rfl).symm.trans hf) |>.symm
   obtain rfl:fn=Tryz.f10:=(Option.some.inj (Tryz.func10.symm.trans hfn)).symm
   exact⟨by kernel_rfl,fun j t ht=>by
    have hp:Tryz.f10.params.toList=[44,59,22]:=by kernel_rfl
    have hm:t∈Tryz.f10.params.toList:=by rw [Array.mem_toList_iff];exact Array.mem_of_getElem? ht
    rw [hp]at hm
    have hall:([44,59,22].all fun u=> !Tryz.prog.wantsStandIn u)=true:=by kernel_rfl
    exact(show Tryz.prog.wantsStandIn t=false by simpa using List.all_eq_true.1 hall t hm)⟩)
  (by kernel_rfl)
end Go.Proofs.YtciddhkfbgkejaaGreatDoor
