/-
  HR24 (merged for the claim).
-/
import Derived.Test.YtciddhkfbgkejaaGreatDoorHR20
set_option linter.unusedSimpArgs false
set_option linter.unusedVariables false
namespace Go.Proofs.YtciddhkfbgkejaaGreatDoor
open Go.Vl Go.RowKit Go.Dg
theorem Qkx (os:Os) (started:os.Started) (H:Type) (enc:TypeId×Value→H):
  ReturnsInHanded {} Tryz.checked os 6 .any (fun w args=>(Rows.windAlongSpec.pre enc Tryz.prog Tryz.f6 [] false w args∧laidMetH Tryz.prog Qjt w)∧sizedMet enc Tryz.prog Tryz.f6 (OpenSpec.ofChange Rows.windAlongSpec) false w args)
   (Rows.windAlongSpec.post enc Tryz.prog Tryz.f6 false true false false):=by
 refine Qct (C:=Tryz.checked) [.slc Qju,.slc segT] own started (by kernel_rfl) Tryz.func6
  (ChangeSpec.witness_shaped (enc:=enc) (C:=Tryz.checked) (os:=os) (X:=fun w _=>laidMetH Tryz.prog Qjt w) false (World.doorLaid Tryz.prog 62 os) #[.slice none 0 0,.slice none 0 0] 8 rfl (World.shaped_of_RefB (by kernel_rfl) (by kernel_rfl)) (by kernel_rfl) (by kernel_rfl) (by kernel_rfl) (Qim os _))
  Qmk rfl (tb:=4) (by kernel_rfl) (by kernel_rfl) (by kernel_rfl) (by kernel_rfl) ?_ (by kernel_rfl) hlay ?_
 ·intro ds hd
  match ds,hd with
  | [d1,d2],_=>rfl
 ·rintro pvs ⟨c1,_,rfl,h1,c2,_,rfl,h2,rfl⟩
  obtain⟨n1,e1,b1⟩:=Qec h1
  obtain⟨n2,e2,b2⟩:=Qr8 h2
  rw [e1,e2]
  exact Qt2 n1 n2 b1 b2
theorem Qpy:Rows.WindAlongSaid:=
 OpenClaim.holds_of_wide (p:=Tryz.pinned) (s:=Rows.windAlongSpec) (c:=Rows.windAlongRow) 6 Tryz.f6 rfl rfl rfl rfl rfl rfl rfl ⟨rfl,rfl,rfl,rfl,rfl⟩ rfl rfl rfl rfl rfl (by kernel_rfl) Tryz.func6 (by kernel_rfl)
  (of_decide_eq_true (by kernel_rfl)) (by unfold Func.isWrapper;first|(rw [if_pos (by decide+kernel)];kernel_rfl)|(rw [if_neg (by decide+kernel)];exact⟨rfl,rfl⟩))
  (fun os started H enc _=>Qkx os started H enc)
theorem WindAlong_holds:Rows.WindAlongCardSaid:=
 Claim7.holds_tied_plain_at .later [] [.data,.data] true (true,"187061ddf91d41f0f650930deca635a48c1dbd8ca1bd93a20a3f9822ee6e60b5") false
  Qpy (fun _ h=>by cases h) (by kernel_rfl) (fun _ h=>by cases h) windAlong_row_tie rfl ⟨rfl,rfl⟩ (by kernel_rfl) rfl
  (fun f fn hf hfn=>by
   obtain rfl:f=6:=Option.some.inj ((show Tryz.prog.funcNamed "skylantern/skylanternlaw20.WindAlong" =some 6 by kernel_rfl).symm.trans hf) |>.symm
   obtain rfl:fn=Tryz.f6:=(Option.some.inj (Tryz.func6.symm.trans hfn)).symm
   exact⟨by kernel_rfl,fun j t ht=>by
    have hp:Tryz.f6.params.toList=[22,44]:=by kernel_rfl
    have hm:t∈Tryz.f6.params.toList:=by rw [Array.mem_toList_iff];exact Array.mem_of_getElem? ht
    rw [hp]at hm
    have hall:([22,44].all fun u=> !Tryz.prog.wantsStandIn u)=true:=by kernel_rfl
    exact(show Tryz.prog.wantsStandIn t=false by simpa using List.all_eq_true.1 hall t hm)⟩)
  (by kernel_rfl)
end Go.Proofs.YtciddhkfbgkejaaGreatDoor
