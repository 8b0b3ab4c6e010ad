/-
  HR25 (merged for the claim).
-/
import Derived.Test.YtciddhkfbgkejaaGreatDoorHR20
set_option linter.unusedSimpArgs false
set_option linter.unusedVariables false
namespace Go.Proofs.YtciddhkfbgkejaaGreatDoor
open Go.Vl Go.RowKit Go.Dg
theorem Qi5 (os:Os) (started:os.Started) (H:Type) (enc:TypeId×Value→H):
  ReturnsInHanded {} Tryz.checked os 7 .any (fun w args=>(Rows.windHoldsSpec.pre enc Tryz.prog Tryz.f7 [] false w args∧laidMetH Tryz.prog Qyn w)∧sizedMet enc Tryz.prog Tryz.f7 (OpenSpec.ofChange Rows.windHoldsSpec) false w args)
   (Rows.windHoldsSpec.post enc Tryz.prog Tryz.f7 false true false false):=by
 refine Qk9 (C:=Tryz.checked) [.slc Qnd,.slc Qnd,vecT,.int .i64,.slc segT] own started (by kernel_rfl) Tryz.func7
  (ChangeSpec.witness_shaped (enc:=enc) (C:=Tryz.checked) (os:=os) (X:=fun w _=>laidMetH Tryz.prog Qyn w) false (World.doorLaid Tryz.prog 62 os) #[.slice none 0 0,.slice none 0 0,Zce,.int .i64 0,.slice none 0 0] 8 rfl (World.shaped_of_RefB (by kernel_rfl) (by kernel_rfl)) (by kernel_rfl) (by kernel_rfl) (by kernel_rfl) (Q4v os _))
  Zcd rfl (tb:=4) (by kernel_rfl) (by kernel_rfl) (by kernel_rfl) (by kernel_rfl) ?_ (by kernel_rfl) hlay ?_
 ·intro ds hd
  match ds,hd with
  | [d1,d2,d3,d4,d5],_=>rfl
 ·rintro pvs ⟨c1,_,rfl,h1,c2,_,rfl,h2,c3,_,rfl,h3,c4,_,rfl,h4,c5,_,rfl,h5,rfl⟩
  obtain⟨n1,e1,b1⟩:=Ql5 h1
  obtain⟨n2,e2,b2⟩:=Ql5 h2
  obtain⟨x3,y3,z3,e3⟩:=Q4x h3
  obtain⟨n4,e4,b4⟩:=Qs5 h4
  obtain⟨n5,e5,b5⟩:=Qyq h5
  rw [e1,e2,e3,e4,e5]
  exact Qqw n1 n2 x3 y3 z3 n4 n5 b1 b2 b5
theorem Qne:Rows.WindHoldsSaid:=
 OpenClaim.holds_of_wide (p:=Tryz.pinned) (s:=Rows.windHoldsSpec) (c:=Rows.windHoldsRow) 7 Tryz.f7 rfl rfl rfl rfl rfl rfl rfl ⟨rfl,rfl,rfl,rfl,rfl⟩ rfl rfl rfl rfl rfl (by kernel_rfl) Tryz.func7 (by kernel_rfl)
  (of_decide_eq_true (by kernel_rfl)) (by unfold Func.isWrapper;first|(rw [if_pos (by decide+kernel)];kernel_rfl)|(rw [if_neg (by decide+kernel)];exact⟨rfl,rfl⟩))
  (fun os started H enc _=>Qi5 os started H enc)
theorem WindHolds_holds:Rows.WindHoldsCardSaid:=
 Claim7.holds_tied_plain_at .later [] [.data,.data] true (true,"187061ddf91d41f0f650930deca635a48c1dbd8ca1bd93a20a3f9822ee6e60b5") false
  Qne (fun _ h=>by cases h) (by kernel_rfl) (fun _ h=>by cases h) windHolds_row_tie rfl ⟨rfl,rfl⟩ (by kernel_rfl) rfl
  (fun f fn hf hfn=>by
   obtain rfl:f=7:=Option.some.inj ((show Tryz.prog.funcNamed "skylantern/skylanternlaw20.WindHolds" =some 7 by kernel_rfl).symm.trans hf) |>.symm
   obtain rfl:fn=Tryz.f7:=(Option.some.inj (Tryz.func7.symm.trans hfn)).symm
   exact⟨by kernel_rfl,fun j t ht=>by
    have hp:Tryz.f7.params.toList=[22,22,26,3,44]:=by kernel_rfl
    have hm:t∈Tryz.f7.params.toList:=by rw [Array.mem_toList_iff];exact Array.mem_of_getElem? ht
    rw [hp]at hm
    have hall:([22,22,26,3,44].all fun u=> !Tryz.prog.wantsStandIn u)=true:=by kernel_rfl
    exact(show Tryz.prog.wantsStandIn t=false by simpa using List.all_eq_true.1 hall t hm)⟩)
  (by kernel_rfl)
end Go.Proofs.YtciddhkfbgkejaaGreatDoor
