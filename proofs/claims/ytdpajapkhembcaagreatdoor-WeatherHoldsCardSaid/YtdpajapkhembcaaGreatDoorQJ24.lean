/-
  QJ24 (merged for the claim).
-/
import Derived.Test.YtdpajapkhembcaaGreatDoorQJ17
set_option linter.unusedSimpArgs false
set_option linter.unusedVariables false
namespace Go.Proofs.YtdpajapkhembcaaGreatDoor
open Go.Vl Go.RowKit Go.Dg
theorem Qik (os:Os) (started:os.Started) (H:Type) (enc:TypeId×Value→H):
  ReturnsInHanded {} Tryz.checked os 3 .any (fun w args=>(Rows.weatherHoldsSpec.pre enc Tryz.prog Tryz.f3 [] false w args∧laidMetH Tryz.prog Q7l w)∧sizedMet enc Tryz.prog Tryz.f3 (OpenSpec.ofChange Rows.weatherHoldsSpec) false w args)
   (Rows.weatherHoldsSpec.post enc Tryz.prog Tryz.f3 false true false false):=by
 refine Qov (C:=Tryz.checked) [Zgj,batT,.slc Qtv,Zgk,.int .i64,.int .i64,.int .i64,.int .i64] own started (by kernel_rfl) Tryz.func3
  (ChangeSpec.witness_shaped (enc:=enc) (C:=Tryz.checked) (os:=os) (X:=fun w _=>laidMetH Tryz.prog Q7l w) false (World.doorLaid Tryz.prog 62 os) #[Z0e,Zs5,.slice none 0 0,Zgp,.int .i64 0,.int .i64 0,.int .i64 0,.int .i64 0] 8 rfl (World.shaped_of_RefB (by kernel_rfl) (by kernel_rfl)) (by kernel_rfl) (by kernel_rfl) (by kernel_rfl) (Zgh os _))
  Zs4 rfl (tb:=4) (by kernel_rfl) (by kernel_rfl) (by kernel_rfl) (by kernel_rfl) ?_ (by kernel_rfl) hlay ?_
 ·intro ds hd
  match ds,hd with
  | [d1,d2,d3,d4,d5,d6,d7,d8],_=>rfl
 ·rintro pvs ⟨c1,_,rfl,h1,c2,_,rfl,h2,c3,_,rfl,h3,c4,_,rfl,h4,c5,_,rfl,h5,c6,_,rfl,h6,c7,_,rfl,h7,c8,_,rfl,h8,rfl⟩;obtain⟨n1,e1⟩:=Q7p h1;obtain⟨n2,e2,b2⟩:=Zgo h2;obtain⟨n3,e3,b3⟩:=Q09 h3;obtain⟨x4,y4,e4⟩:=Q7q h4;obtain⟨n5,e5,b5⟩:=Qmc h5;obtain⟨n6,e6,b6⟩:=Qmc h6;obtain⟨n7,e7,b7⟩:=Qmc h7;obtain⟨n8,e8,b8⟩:=Qmc h8;rw [e1,e2,e3,e4,e5,e6,e7,e8];exact Qo2 n1 n2 n3 x4 y4 n5 n6 n7 n8 b3 b5 b6 b7 b8
theorem Qls:Rows.WeatherHoldsSaid:=
 OpenClaim.holds_of_wide (p:=Tryz.pinned) (s:=Rows.weatherHoldsSpec) (c:=Rows.weatherHoldsRow) 3 Tryz.f3 rfl rfl rfl rfl rfl rfl rfl ⟨rfl,rfl,rfl,rfl,rfl⟩ rfl rfl rfl rfl rfl (by kernel_rfl) Tryz.func3 (by kernel_rfl)
  (of_decide_eq_true (by kernel_rfl)) (by unfold Func.isWrapper;first|(rw [if_pos (by decide+kernel)];kernel_rfl)|(rw [if_neg (by decide+kernel)];exact⟨rfl,rfl⟩))
  (fun os started H enc _=>Qik os started H enc)
theorem WeatherHolds_holds:Rows.WeatherHoldsCardSaid:=
 Claim7.holds_tied_plain_at .later [] [.data,.data] true (true,"c7115e6304f0fa0f18af87394c4f05a174a62606756e53fc84daa577d3943521") false
  Qls (fun _ h=>by cases h) (by kernel_rfl) (fun _ h=>by cases h) weatherHolds_row_tie rfl ⟨rfl,rfl⟩ (by kernel_rfl) rfl
  (fun f fn hf hfn=>by
   obtain rfl:f=3:=Option.some.inj ((show Tryz.prog.funcNamed "skylantern/skylanternlaw45.WeatherHolds" =some 3 by kernel_rfl).symm.trans hf) |>.symm
   obtain rfl:fn=Tryz.f3:=(Option.some.inj (Tryz.func3.symm.trans hfn)).symm;exact⟨by kernel_rfl,fun j t ht=>by
    have hp:Tryz.f3.params.toList=[26,28,29,31,3,3,3,3]:=by kernel_rfl
    have hm:t∈Tryz.f3.params.toList:=by rw [Array.mem_toList_iff];exact Array.mem_of_getElem? ht
    rw [hp]at hm;have hall:([26,28,29,31,3,3,3,3].all fun u=> !Tryz.prog.wantsStandIn u)=true:=by kernel_rfl
    exact(show Tryz.prog.wantsStandIn t=false by simpa using List.all_eq_true.1 hall t hm)⟩)
  (by kernel_rfl)
end Go.Proofs.YtdpajapkhembcaaGreatDoor
