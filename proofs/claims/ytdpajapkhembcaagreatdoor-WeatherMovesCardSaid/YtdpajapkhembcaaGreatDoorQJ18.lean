/-
  QJ18 (merged for the claim).
-/
import Derived.Test.YtdpajapkhembcaaGreatDoorQJ17
set_option linter.unusedSimpArgs false
set_option linter.unusedVariables false
namespace Go.Proofs.YtdpajapkhembcaaGreatDoor
open Go.Vl Go.RowKit Go.Dg
theorem Qil (os:Os) (started:os.Started) (H:Type) (enc:TypeId×Value→H):
  ReturnsInHanded {} Tryz.checked os 4 .any (fun w args=>(Rows.weatherMovesSpec.pre enc Tryz.prog Tryz.f4 [] false w args∧laidMetH Tryz.prog Qne w)∧sizedMet enc Tryz.prog Tryz.f4 (OpenSpec.ofChange Rows.weatherMovesSpec) false w args)
   (Rows.weatherMovesSpec.post enc Tryz.prog Tryz.f4 false true false false):=by
 refine Qdp (C:=Tryz.checked) [.slc Qni,.int .i64,Q1e] own started (by kernel_rfl) Tryz.func4
  (ChangeSpec.witness_shaped (enc:=enc) (C:=Tryz.checked) (os:=os) (X:=fun w _=>laidMetH Tryz.prog Qne w) false (World.doorLaid Tryz.prog 62 os) #[.slice none 0 0,.int .i64 0,Qrm] 8 rfl (World.shaped_of_RefB (by kernel_rfl) (by kernel_rfl)) (by kernel_rfl) (by kernel_rfl) (by kernel_rfl) (Ql7 os _))
  Qrj rfl (tb:=4) (by kernel_rfl) (by kernel_rfl) (by kernel_rfl) (by kernel_rfl) ?_ (by kernel_rfl) hlay ?_
 ·intro ds hd
  match ds,hd with
  | [d1,d2,d3],_=>rfl
 ·rintro pvs ⟨c1,_,rfl,h1,c2,_,rfl,h2,c3,_,rfl,h3,rfl⟩;obtain⟨n1,e1,b1⟩:=Qhr h1;obtain⟨n2,e2,b2⟩:=Qrk h2;obtain⟨x3,y3,e3⟩:=Qnh h3;rw [e1,e2,e3];exact Qo0 n1 n2 x3 y3 b1
theorem Qlp:Rows.WeatherMovesSaid:=
 OpenClaim.holds_of_wide (p:=Tryz.pinned) (s:=Rows.weatherMovesSpec) (c:=Rows.weatherMovesRow) 4 Tryz.f4 rfl rfl rfl rfl rfl rfl rfl ⟨rfl,rfl,rfl,rfl,rfl⟩ rfl rfl rfl rfl rfl (by kernel_rfl) Tryz.func4 (by kernel_rfl)
  (of_decide_eq_true (by kernel_rfl)) (by unfold Func.isWrapper;first|(rw [if_pos (by decide+kernel)];kernel_rfl)|(rw [if_neg (by decide+kernel)];exact⟨rfl,rfl⟩))
  (fun os started H enc _=>Qil os started H enc)
theorem WeatherMoves_holds:Rows.WeatherMovesCardSaid:=
 Claim7.holds_tied_plain_at .later [] [.data,.data] true (true,"c7115e6304f0fa0f18af87394c4f05a174a62606756e53fc84daa577d3943521") false
  Qlp (fun _ h=>by cases h) (by kernel_rfl) (fun _ h=>by cases h) weatherMoves_row_tie rfl ⟨rfl,rfl⟩ (by kernel_rfl) rfl
  (fun f fn hf hfn=>by
   obtain rfl:f=4:=Option.some.inj ((show Tryz.prog.funcNamed "skylantern/skylanternlaw45.WeatherMoves" =some 4 by kernel_rfl).symm.trans hf) |>.symm
   obtain rfl:fn=Tryz.f4:=(Option.some.inj (Tryz.func4.symm.trans hfn)).symm;exact⟨by kernel_rfl,fun j t ht=>by
    have hp:Tryz.f4.params.toList=[29,3,31]:=by kernel_rfl
    have hm:t∈Tryz.f4.params.toList:=by rw [Array.mem_toList_iff];exact Array.mem_of_getElem? ht
    rw [hp]at hm;have hall:([29,3,31].all fun u=> !Tryz.prog.wantsStandIn u)=true:=by kernel_rfl
    exact(show Tryz.prog.wantsStandIn t=false by simpa using List.all_eq_true.1 hall t hm)⟩)
  (by kernel_rfl)
end Go.Proofs.YtdpajapkhembcaaGreatDoor
