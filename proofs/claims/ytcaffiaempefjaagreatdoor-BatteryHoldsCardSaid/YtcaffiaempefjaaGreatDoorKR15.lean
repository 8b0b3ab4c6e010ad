/-
  KR15 (merged for the claim).
-/
import Derived.Test.YtcaffiaempefjaaGreatDoorKR10
set_option linter.unusedSimpArgs false
set_option linter.unusedVariables false
namespace Go.Proofs.YtcaffiaempefjaaGreatDoor
open Go.Vl Go.RowKit Go.Dg
theorem Qi8 (os:Os) (started:os.Started) (H:Type) (enc:TypeId×Value→H):
  ReturnsInHanded {} Tryz.checked os 3 .any (fun w args=>(Rows.batteryHoldsSpec.pre enc Tryz.prog Tryz.f3 [] false w args∧laidMetH Tryz.prog Q7i w)∧sizedMet enc Tryz.prog Tryz.f3 (OpenSpec.ofChange Rows.batteryHoldsSpec) false w args)
   (Rows.batteryHoldsSpec.post enc Tryz.prog Tryz.f3 false true false false):=by
 refine Qo0 (C:=Tryz.checked) [.slc segT,batT,.slc Quf,.int .i64,.int .i64] own started (by kernel_rfl) Tryz.func3
  (ChangeSpec.witness_shaped (enc:=enc) (C:=Tryz.checked) (os:=os) (X:=fun w _=>laidMetH Tryz.prog Q7i w) false (World.doorLaid Tryz.prog 62 os) #[.slice none 0 0,Zrk,.slice none 0 0,.int .i64 0,.int .i64 0] 8 rfl (World.shaped_of_RefB (by kernel_rfl) (by kernel_rfl)) (by kernel_rfl) (by kernel_rfl) (by kernel_rfl) (Zf3 os _))
  Zrj rfl (tb:=4) (by kernel_rfl) (by kernel_rfl) (by kernel_rfl) (by kernel_rfl) ?_ (by kernel_rfl) hlay ?_
 ·intro ds hd
  match ds,hd with
  | [d1,d2,d3,d4,d5],_=>rfl
 ·rintro pvs ⟨c1,_,rfl,h1,c2,_,rfl,h2,c3,_,rfl,h3,c4,_,rfl,h4,c5,_,rfl,h5,rfl⟩;obtain⟨n1,e1,b1⟩:=Q7l h1;obtain⟨n2,e2,b2⟩:=Zf5 h2;obtain⟨n3,e3,b3⟩:=Q1t h3;obtain⟨n4,e4,b4⟩:=Qr5 h4;obtain⟨n5,e5,b5⟩:=Qr5 h5;rw [e1,e2,e3,e4,e5];exact Qo4 n1 n2 n3 n4 n5 b1 b3 b4 b5
theorem Ql7:Rows.BatteryHoldsSaid:=
 OpenClaim.holds_of_wide (p:=Tryz.pinned) (s:=Rows.batteryHoldsSpec) (c:=Rows.batteryHoldsRow) 3 Tryz.f3 rfl rfl rfl rfl rfl rfl rfl ⟨rfl,rfl,rfl,rfl,rfl⟩ rfl rfl rfl rfl rfl (by kernel_rfl) Tryz.func3 (by kernel_rfl)
  (of_decide_eq_true (by kernel_rfl)) (by unfold Func.isWrapper;first|(rw [if_pos (by decide+kernel)];kernel_rfl)|(rw [if_neg (by decide+kernel)];exact⟨rfl,rfl⟩))
  (fun os started H enc _=>Qi8 os started H enc)
theorem BatteryHolds_holds:Rows.BatteryHoldsCardSaid:=
 Claim7.holds_tied_plain_at .later [] [.data,.data] true (true,"e612014129e7ec43560b96c0faa8411f2b5134e7d09344b8b90bb296870d3c60") false
  Ql7 (fun _ h=>by cases h) (by kernel_rfl) (fun _ h=>by cases h) batteryHolds_row_tie rfl ⟨rfl,rfl⟩ (by kernel_rfl) rfl
  (fun f fn hf hfn=>by
   obtain rfl:f=3:=Option.some.inj ((show Tryz.prog.funcNamed "skylantern/skylanternlaw21.BatteryHolds" =some 3 by kernel_rfl).symm.trans hf) |>.symm
   obtain rfl:fn=Tryz.f3:=(Option.some.inj (Tryz.func3.symm.trans hfn)).symm;exact⟨by kernel_rfl,fun j t ht=>by
    have hp:Tryz.f3.params.toList=[23,25,26,3,3]:=by kernel_rfl
    have hm:t∈Tryz.f3.params.toList:=by rw [Array.mem_toList_iff];exact Array.mem_of_getElem? ht
    rw [hp]at hm;have hall:([23,25,26,3,3].all fun u=> !Tryz.prog.wantsStandIn u)=true:=by kernel_rfl
    exact(show Tryz.prog.wantsStandIn t=false by simpa using List.all_eq_true.1 hall t hm)⟩)
  (by kernel_rfl)
end Go.Proofs.YtcaffiaempefjaaGreatDoor
