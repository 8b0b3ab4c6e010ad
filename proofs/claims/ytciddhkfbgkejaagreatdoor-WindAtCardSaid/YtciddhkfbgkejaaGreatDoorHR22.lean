/-
  HR22 (merged for the claim).
-/
import Derived.Test.YtciddhkfbgkejaaGreatDoorHR20
set_option linter.unusedSimpArgs false
set_option linter.unusedVariables false
namespace Go.Proofs.YtciddhkfbgkejaaGreatDoor
open Go.Vl Go.RowKit Go.Dg
theorem Qpx (os:Os) (started:os.Started) (H:Type) (enc:TypeId×Value→H):
  ReturnsInHanded {} Tryz.checked os 4 .any (fun w args=>(Rows.windAtSpec.pre enc Tryz.prog Tryz.f4 [] false w args∧laidMetH Tryz.prog Qjt w)∧sizedMet enc Tryz.prog Tryz.f4 (OpenSpec.ofChange Rows.windAtSpec) false w args)
   (Rows.windAtSpec.post enc Tryz.prog Tryz.f4 false true false false):=by
 refine Qct (C:=Tryz.checked) [.slc Qju,vecT,.int .i64] own started (by kernel_rfl) Tryz.func4
  (ChangeSpec.witness_shaped (enc:=enc) (C:=Tryz.checked) (os:=os) (X:=fun w _=>laidMetH Tryz.prog Qjt w) false (World.doorLaid Tryz.prog 62 os) #[.slice none 0 0,Q20,.int .i64 0] 8 rfl (World.shaped_of_RefB (by kernel_rfl) (by kernel_rfl)) (by kernel_rfl) (by kernel_rfl) (by kernel_rfl) (Qim os _))
  Qmk rfl (tb:=4) (by kernel_rfl) (by kernel_rfl) (by kernel_rfl) (by kernel_rfl) ?_ (by kernel_rfl) hlay ?_
 ·intro ds hd
  match ds,hd with
  | [d1,d2,d3],_=>rfl
 ·rintro pvs ⟨c1,_,rfl,h1,c2,_,rfl,h2,c3,_,rfl,h3,rfl⟩
  obtain⟨n1,e1,b1⟩:=Qec h1
  obtain⟨x2,y2,z2,e2⟩:=Qww h2
  obtain⟨n3,e3,b3⟩:=Qpv h3
  rw [e1,e2,e3]
  exact Q9k n1 x2 y2 z2 n3 b1
theorem Qyd:Rows.WindAtSaid:=
 OpenClaim.holds_of_wide (p:=Tryz.pinned) (s:=Rows.windAtSpec) (c:=Rows.windAtRow) 4 Tryz.f4 rfl rfl rfl rfl rfl rfl rfl ⟨rfl,rfl,rfl,rfl,rfl⟩ rfl rfl rfl rfl rfl (by kernel_rfl) Tryz.func4 (by kernel_rfl)
  (of_decide_eq_true (by kernel_rfl)) (by unfold Func.isWrapper;first|(rw [if_pos (by decide+kernel)];kernel_rfl)|(rw [if_neg (by decide+kernel)];exact⟨rfl,rfl⟩))
  (fun os started H enc _=>Qpx os started H enc)
theorem WindAt_holds:Rows.WindAtCardSaid:=
 Claim7.holds_tied_plain_at .later [] [.data,.data] true (true,"187061ddf91d41f0f650930deca635a48c1dbd8ca1bd93a20a3f9822ee6e60b5") false
  Qyd (fun _ h=>by cases h) (by kernel_rfl) (fun _ h=>by cases h) windAt_row_tie rfl ⟨rfl,rfl⟩ (by kernel_rfl) rfl
  (fun f fn hf hfn=>by
   obtain rfl:f=4:=Option.some.inj ((show Tryz.prog.funcNamed "skylantern/skylanternlaw20.WindAt" =some 4 by kernel_rfl).symm.trans hf) |>.symm
   obtain rfl:fn=Tryz.f4:=(Option.some.inj (Tryz.func4.symm.trans hfn)).symm
   exact⟨by kernel_rfl,fun j t ht=>by
    have hp:Tryz.f4.params.toList=[22,26,3]:=by kernel_rfl
    have hm:t∈Tryz.f4.params.toList:=by rw [Array.mem_toList_iff];exact Array.mem_of_getElem? ht
    rw [hp]at hm
    have hall:([22,26,3].all fun u=> !Tryz.prog.wantsStandIn u)=true:=by kernel_rfl
    exact(show Tryz.prog.wantsStandIn t=false by simpa using List.all_eq_true.1 hall t hm)⟩)
  (by kernel_rfl)
end Go.Proofs.YtciddhkfbgkejaaGreatDoor
