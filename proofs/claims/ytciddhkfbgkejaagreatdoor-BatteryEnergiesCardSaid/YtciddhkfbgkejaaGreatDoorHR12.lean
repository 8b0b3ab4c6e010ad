/-
  HR12 (merged for the claim).
-/
import Derived.Test.YtciddhkfbgkejaaGreatDoorHR10
set_option linter.unusedSimpArgs false
set_option linter.unusedVariables false
namespace Go.Proofs.YtciddhkfbgkejaaGreatDoor
open Go.Vl Go.RowKit Go.Dg
theorem Qgp (os:Os) (started:os.Started) (H:Type) (enc:TypeId×Value→H):
  ReturnsInHanded {} Tryz.checked os 9 .any (fun w args=>(Rows.batteryEnergiesSpec.pre enc Tryz.prog Tryz.f9 [] false w args∧laidMetH Tryz.prog Q3e w)∧sizedMet enc Tryz.prog Tryz.f9 (OpenSpec.ofChange Rows.batteryEnergiesSpec) false w args)
   (Rows.batteryEnergiesSpec.post enc Tryz.prog Tryz.f9 false true false false):=by
 refine Qnn (C:=Tryz.checked) [.slc segT,batT,.slc Qsi] own started (by kernel_rfl) Tryz.func9
  (ChangeSpec.witness_shaped (enc:=enc) (C:=Tryz.checked) (os:=os) (X:=fun w _=>laidMetH Tryz.prog Q3e w) false (World.doorLaid Tryz.prog 62 os) #[.slice none 0 0,Zkg,.slice none 0 0] 8 rfl (World.shaped_of_RefB (by kernel_rfl) (by kernel_rfl)) (by kernel_rfl) (by kernel_rfl) (by kernel_rfl) (Za9 os _))
  Zkf rfl (tb:=4) (by kernel_rfl) (by kernel_rfl) (by kernel_rfl) (by kernel_rfl) ?_ (by kernel_rfl) hlay ?_
 ·intro ds hd
  match ds,hd with
  | [d1,d2,d3],_=>rfl
 ·rintro pvs ⟨c1,_,rfl,h1,c2,_,rfl,h2,c3,_,rfl,h3,rfl⟩
  obtain⟨n1,e1,b1⟩:=Q3h h1
  obtain⟨n2,e2,b2⟩:=Zbc h2
  obtain⟨n3,e3,b3⟩:=Qyo h3
  rw [e1,e2,e3]
  exact Qj3 n1 n2 n3 b1 b3
theorem Qig:Rows.BatteryEnergiesSaid:=
 OpenClaim.holds_of_wide (p:=Tryz.pinned) (s:=Rows.batteryEnergiesSpec) (c:=Rows.batteryEnergiesRow) 9 Tryz.f9 rfl rfl rfl rfl rfl rfl rfl ⟨rfl,rfl,rfl,rfl,rfl⟩ rfl rfl rfl rfl rfl (by kernel_rfl) Tryz.func9 (by kernel_rfl)
  (of_decide_eq_true (by kernel_rfl)) (by unfold Func.isWrapper;first|(rw [if_pos (by decide+kernel)];kernel_rfl)|(rw [if_neg (by decide+kernel)];exact⟨rfl,rfl⟩))
  (fun os started H enc _=>Qgp os started H enc)
theorem BatteryEnergies_holds:Rows.BatteryEnergiesCardSaid:=
 Claim7.holds_tied_plain_at .later [] [.data,.data] true (true,"187061ddf91d41f0f650930deca635a48c1dbd8ca1bd93a20a3f9822ee6e60b5") false
  Qig (fun _ h=>by cases h) (by kernel_rfl) (fun _ h=>by cases h) batteryEnergies_row_tie rfl ⟨rfl,rfl⟩ (by kernel_rfl) rfl
  (fun f fn hf hfn=>by
   obtain rfl:f=9:=Option.some.inj ((show Tryz.prog.funcNamed "skylantern/skylanternlaw21.BatteryEnergies" =some 9 by kernel_rfl).symm.trans hf) |>.symm
   obtain rfl:fn=Tryz.f9:=(Option.some.inj (Tryz.func9.symm.trans hfn)).symm
   exact⟨by kernel_rfl,fun j t ht=>by
    have hp:Tryz.f9.params.toList=[44,59,22]:=by kernel_rfl
    have hm:t∈Tryz.f9.params.toList:=by rw [Array.mem_toList_iff];exact Array.mem_of_getElem? ht
    rw [hp]at hm
    have hall:([44,59,22].all fun u=> !Tryz.prog.wantsStandIn u)=true:=by kernel_rfl
    exact(show Tryz.prog.wantsStandIn t=false by simpa using List.all_eq_true.1 hall t hm)⟩)
  (by kernel_rfl)
end Go.Proofs.YtciddhkfbgkejaaGreatDoor
