/-
  QJ21 (merged for the claim).
-/
import Derived.Test.YtdpajapkhembcaaGreatDoorQJ17
set_option linter.unusedSimpArgs false
set_option linter.unusedVariables false
namespace Go.Proofs.YtdpajapkhembcaaGreatDoor
open Go.Vl Go.RowKit Go.Dg
theorem Qh6 (os:Os) (started:os.Started) (H:Type) (enc:TypeId×Value→H):
  ReturnsInHanded {} Tryz.checked os 7 .any (fun w args=>(Rows.weatherTablesSpec.pre enc Tryz.prog Tryz.f7 [] false w args∧laidMetH Tryz.prog Qne w)∧sizedMet enc Tryz.prog Tryz.f7 (OpenSpec.ofChange Rows.weatherTablesSpec) false w args)
   (Rows.weatherTablesSpec.post enc Tryz.prog Tryz.f7 false true false false):=by
 refine Qdp (C:=Tryz.checked) [Q1d,batT,.slc Qni,Q1e,.int .i64,.int .i64] own started (by kernel_rfl) Tryz.func7
  (ChangeSpec.witness_shaped (enc:=enc) (C:=Tryz.checked) (os:=os) (X:=fun w _=>laidMetH Tryz.prog Qne w) false (World.doorLaid Tryz.prog 62 os) #[Q7d,Qwd,.slice none 0 0,Qrm,.int .i64 0,.int .i64 0] 8 rfl (World.shaped_of_RefB (by kernel_rfl) (by kernel_rfl)) (by kernel_rfl) (by kernel_rfl) (by kernel_rfl) (Ql7 os _))
  Qrj rfl (tb:=4) (by kernel_rfl) (by kernel_rfl) (by kernel_rfl) (by kernel_rfl) ?_ (by kernel_rfl) hlay ?_
 ·intro ds hd
  match ds,hd with
  | [d1,d2,d3,d4,d5,d6],_=>rfl
 ·rintro pvs ⟨c1,_,rfl,h1,c2,_,rfl,h2,c3,_,rfl,h3,c4,_,rfl,h4,c5,_,rfl,h5,c6,_,rfl,h6,rfl⟩;obtain⟨n1,e1⟩:=Qng h1;obtain⟨n2,e2,b2⟩:=Qrl h2;obtain⟨n3,e3,b3⟩:=Qhr h3;obtain⟨x4,y4,e4⟩:=Qnh h4;obtain⟨n5,e5,b5⟩:=Qrk h5;obtain⟨n6,e6,b6⟩:=Qrk h6;rw [e1,e2,e3,e4,e5,e6];exact Qnd n1 n2 n3 x4 y4 n5 n6 b3
theorem Qkg:Rows.WeatherTablesSaid:=
 OpenClaim.holds_of_wide (p:=Tryz.pinned) (s:=Rows.weatherTablesSpec) (c:=Rows.weatherTablesRow) 7 Tryz.f7 rfl rfl rfl rfl rfl rfl rfl ⟨rfl,rfl,rfl,rfl,rfl⟩ rfl rfl rfl rfl rfl (by kernel_rfl) Tryz.func7 (by kernel_rfl)
  (of_decide_eq_true (by kernel_rfl)) (by unfold Func.isWrapper;first|(rw [if_pos (by decide+kernel)];kernel_rfl)|(rw [if_neg (by decide+kernel)];exact⟨rfl,rfl⟩))
  (fun os started H enc _=>Qh6 os started H enc)
theorem WeatherTables_holds:Rows.WeatherTablesCardSaid:=
 Claim7.holds_tied_plain_at .later [] [.data,.data] true (true,"c7115e6304f0fa0f18af87394c4f05a174a62606756e53fc84daa577d3943521") false
  Qkg (fun _ h=>by cases h) (by kernel_rfl) (fun _ h=>by cases h) weatherTables_row_tie rfl ⟨rfl,rfl⟩ (by kernel_rfl) rfl
  (fun f fn hf hfn=>by
   obtain rfl:f=7:=Option.some.inj ((show Tryz.prog.funcNamed "skylantern/skylanternlaw45.WeatherTables" =some 7 by kernel_rfl).symm.trans hf) |>.symm
   obtain rfl:fn=Tryz.f7:=(Option.some.inj (Tryz.func7.symm.trans hfn)).symm;exact⟨by kernel_rfl,fun j t ht=>by
    have hp:Tryz.f7.params.toList=[26,28,29,31,3,3]:=by kernel_rfl
    have hm:t∈Tryz.f7.params.toList:=by rw [Array.mem_toList_iff];exact Array.mem_of_getElem? ht
    rw [hp]at hm;have hall:([26,28,29,31,3,3].all fun u=> !Tryz.prog.wantsStandIn u)=true:=by kernel_rfl
    exact(show Tryz.prog.wantsStandIn t=false by simpa using List.all_eq_true.1 hall t hm)⟩)
  (by kernel_rfl)
end Go.Proofs.YtdpajapkhembcaaGreatDoor
