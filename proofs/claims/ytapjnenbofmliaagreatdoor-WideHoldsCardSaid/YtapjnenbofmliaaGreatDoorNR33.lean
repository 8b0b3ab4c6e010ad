/-
  NR33 (merged for the claim).
-/
import Derived.Test.YtapjnenbofmliaaGreatDoorNT9
import Derived.Test.YtapjnenbofmliaaGreatDoorNR30
set_option linter.unusedSimpArgs false
set_option linter.unusedVariables false
namespace Go.Proofs.YtapjnenbofmliaaGreatDoor
open Go.Vl Go.RowKit
theorem Qiz (os:Os) (started:os.Started) (H:Type) (enc:TypeId×Value→H):
  ReturnsInHanded {} Tryz.checked os 5 .any (fun w args=>(Rows.wideHoldsSpec.pre enc Tryz.prog Tryz.f5 [] false w args∧laidMetH Tryz.prog Qon w)∧sizedMet enc Tryz.prog Tryz.f5 (OpenSpec.ofChange Rows.wideHoldsSpec) false w args)
   (Rows.wideHoldsSpec.post enc Tryz.prog Tryz.f5 false true false false):=by
 refine Qfq (C:=Tryz.checked) [Qqj,Qqj,Qqj] own started (by kernel_rfl) Tryz.func5
  (ChangeSpec.witness_shaped (enc:=enc) (C:=Tryz.checked) (os:=os) (X:=fun w _=>laidMetH Tryz.prog Qon w) false (World.doorLaid Tryz.prog 62 os) #[Qjc,Qjc,Qjc] 8 rfl (World.shaped_of_RefB (by kernel_rfl) (by kernel_rfl)) (by kernel_rfl) (by kernel_rfl) (by kernel_rfl) (Qse os _))
  Qw1 rfl (tb:=4) (by kernel_rfl) (by kernel_rfl) (by kernel_rfl) (by kernel_rfl) ?_ (by kernel_rfl) hlay ?_
 ·intro ds hd
  match ds,hd with
  | [d1,d2,d3],_=>rfl
 ·rintro pvs ⟨c1,_,rfl,h1,c2,_,rfl,h2,c3,_,rfl,h3,rfl⟩;obtain⟨n1,s1,e1,_⟩:=Qgq h1;obtain⟨n2,s2,e2,_⟩:=Qgq h2;obtain⟨n3,s3,e3,_⟩:=Qgq h3;rw [e1,e2,e3];exact Qql n1 n2 n3 s1 s2 s3
theorem Qmz:Rows.WideHoldsSaid:=
 OpenClaim.holds_of_wide (p:=Tryz.pinned) (s:=Rows.wideHoldsSpec) (c:=Rows.wideHoldsRow) 5 Tryz.f5 rfl rfl rfl rfl rfl rfl rfl ⟨rfl,rfl,rfl,rfl,rfl⟩ rfl rfl rfl rfl rfl (by kernel_rfl) Tryz.func5 (by kernel_rfl)
  (of_decide_eq_true (by kernel_rfl)) (by unfold Func.isWrapper;first|(rw [if_pos (by decide+kernel)];kernel_rfl)|(rw [if_neg (by decide+kernel)];exact⟨rfl,rfl⟩))
  (fun os started H enc _=>Qiz os started H enc)
theorem WideHolds_holds:Rows.WideHoldsCardSaid:=
 Claim7.holds_tied_plain_at .later [] [.data,.data,.data,.sentinel,.sentinel] true (true,"5b3e2a32594106401b5934f6d08eba7a4ed11b629f2f1ded1f742e244509feaa") true
  Qmz (fun _ h=>by cases h) (by kernel_rfl) (fun _ h=>by cases h) wideHolds_row_tie rfl ⟨rfl,rfl⟩ (by kernel_rfl) rfl
  (fun f fn hf hfn=>by
   obtain rfl:f=5:=Option.some.inj ((show Tryz.prog.funcNamed "skylantern/skylanternlaw01.WideHolds" =some 5 by kernel_rfl).symm.trans hf) |>.symm
   obtain rfl:fn=Tryz.f5:=(Option.some.inj (Tryz.func5.symm.trans hfn)).symm;exact⟨by kernel_rfl,fun j t ht=>by
    have hp:Tryz.f5.params.toList=[23,23,23]:=by kernel_rfl
    have hm:t∈Tryz.f5.params.toList:=by rw [Array.mem_toList_iff];exact Array.mem_of_getElem? ht
    rw [hp]at hm;have hall:([23,23,23].all fun u=> !Tryz.prog.wantsStandIn u)=true:=by kernel_rfl
    exact(show Tryz.prog.wantsStandIn t=false by simpa using List.all_eq_true.1 hall t hm)⟩)
  (by kernel_rfl)
end Go.Proofs.YtapjnenbofmliaaGreatDoor
