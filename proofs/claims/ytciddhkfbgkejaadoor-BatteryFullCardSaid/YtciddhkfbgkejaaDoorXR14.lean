/-
  XR14 (merged for the claim).
-/
import Derived.Test.YtciddhkfbgkejaaDoorUS2
import Derived.Test.YtciddhkfbgkejaaDoorRows
import Derived.Test.YtciddhkfbgkejaaDoorTie
import Derived.Test.YtciddhkfbgkejaaDoorCards
import Derived.SevenTiedAt
import Derived.LaidSub
import Derived.MakeChecks
import Derived.Lib.LaidTab
set_option linter.unusedSimpArgs false
set_option linter.unusedVariables false
namespace Go.Proofs.YtciddhkfbgkejaaDoor
open Go.Vl Go.RowKit Go.Dg
theorem own:ownKnob Tryd.prog.godebug=none:=by kernel_rfl
theorem Zcz:laidOutB Tryd.prog=true:=by kernel_rfl
def Qz5:List (String×DataW Unit):=[("math/bits.deBruijn32tab",Rows.laid_math_bits_deBruijn32tab),("math/bits.deBruijn64tab",Rows.laid_math_bits_deBruijn64tab)]
theorem Q4w (os:Os) (args:Array Value):laidMetH Tryd.prog Qz5 ((World.doorLaid Tryd.prog 62 os).forCall (fun _ _=>0) ⟨#[],args,[]⟩).memory:=
 laidMetH_of_parts3 (fuel:=8) (laidMet_of_run' 8 (by kernel_rfl) (by kernel_rfl)) (by kernel_rfl) (by kernel_rfl)
def Qz6:List Int:=Go.Lib.deBruijn64tab.map fun(z:Nat)=>(z:Int)
theorem hlay (W:World) (h:laidMetH Tryd.prog Qz5 W):Laid Tryd.prog W.heap.size W:=by
 rintro nm tab (⟨rfl,rfl⟩|⟨rfl,rfl⟩) g hg
 ·have e:Tryd.prog.globalNamed Qx0=none:=by kernel_rfl
  rw [e]at hg;cases hg
 obtain rfl:g=3:=Option.some.inj (hg.symm.trans (by kernel_rfl))
 have hf:=h.filter (fun x=>x.1==Qj9)
 have e:Qz5.filter (fun x=>x.1==Qj9)=[(Qj9,Lib.tabData .u8 Qz6)]:=by kernel_rfl
 rw [e,MakeChecks.laidMetH_plain _ _ _ (by kernel_rfl)]at hf
 have ht:Lib.TabIs Tryd.prog W Qj9 .u8 Qz6:=Lib.tabIs_of_head (g:=3) (t:=156) (e:=5) (n:=64) (by kernel_rfl) (by kernel_rfl) (by kernel_rfl) (by kernel_rfl) (by kernel_rfl) (by kernel_rfl) hf
 have e2:(Qz6.map fun z=>Value.int .u8 z).toArray=Qx1:=by kernel_rfl
 unfold Lib.TabIs at ht
 rw [e2]at ht
 refine⟨?_,ht⟩
 simp only [World.var?,hg,Option.bind_some]at ht
 cases hh:W.heap[(3:Nat)]? with
 |none=>rw [hh]at ht;cases ht
 |some o=>exact(Array.getElem?_eq_some_iff.1 hh).1
theorem Qhu (os:Os) (started:os.Started) (H:Type) (enc:TypeId×Value→H):
  ReturnsInHanded {} Tryd.checked os 3 .any (fun w args=>(Rows.batteryFullSpec.pre enc Tryd.prog Tryd.f3 [] false w args∧laidMetH Tryd.prog Qz5 w)∧sizedMet enc Tryd.prog Tryd.f3 (OpenSpec.ofChange Rows.batteryFullSpec) false w args)
   (Rows.batteryFullSpec.post enc Tryd.prog Tryd.f3 false true false false):=by
 refine Qkz (C:=Tryd.checked) [] own started (by kernel_rfl) Tryd.func3
  (ChangeSpec.witness_shaped (enc:=enc) (C:=Tryd.checked) (os:=os) (X:=fun w _=>laidMetH Tryd.prog Qz5 w) false (World.doorLaid Tryd.prog 62 os) #[] 8 rfl (World.shaped_of_RefB (by kernel_rfl) (by kernel_rfl)) (by kernel_rfl) (by kernel_rfl) (by kernel_rfl) (Q4w os _))
  Zcz rfl (tb:=4) (by kernel_rfl) (by kernel_rfl) (by kernel_rfl) (by kernel_rfl) ?_ (by kernel_rfl) hlay ?_
 ·intro ds hd
  match ds,hd with
  | [],_=>rfl
 ·rintro pvs rfl
  exact Qnz
theorem Qla:Rows.BatteryFullSaid:=
 OpenClaim.holds_of_wide (p:=Tryd.pinned) (s:=Rows.batteryFullSpec) (c:=Rows.batteryFullRow) 3 Tryd.f3 rfl rfl rfl rfl rfl rfl rfl ⟨rfl,rfl,rfl,rfl,rfl⟩ rfl rfl rfl rfl rfl (by kernel_rfl) Tryd.func3 (by kernel_rfl)
  (of_decide_eq_true (by kernel_rfl)) (by unfold Func.isWrapper;first|(rw [if_pos (by decide+kernel)];kernel_rfl)|(rw [if_neg (by decide+kernel)];exact⟨rfl,rfl⟩))
  (fun os started H enc _=>Qhu os started H enc)
theorem BatteryFull_holds:Rows.BatteryFullCardSaid:=
 Claim7.holds_tied_plain_at .later [] [.data,.data] true (true,"d82aee98d638e9e4d6d503d29ae2f087a5481efa2c13d858816ee60d50946abb") false
  Qla (fun _ h=>by cases h) (by kernel_rfl) (fun _ h=>by cases h) batteryFull_row_tie rfl ⟨rfl,rfl⟩ (by kernel_rfl) rfl
  (fun f fn hf hfn=>by
   obtain rfl:f=3:=Option.some.inj ((show Tryd.prog.funcNamed "skylantern/skylanternlaw21.BatteryFull" =some 3 by kernel_rfl).symm.trans hf) |>.symm
   obtain rfl:fn=Tryd.f3:=(Option.some.inj (Tryd.func3.symm.trans hfn)).symm
   exact⟨by kernel_rfl,fun j t ht=>by
    have hp:Tryd.f3.params.toList=[]:=by kernel_rfl
    have hm:t∈Tryd.f3.params.toList:=by rw [Array.mem_toList_iff];exact Array.mem_of_getElem? ht
    rw [hp]at hm
    exact nomatch hm⟩)
  (by kernel_rfl)
end Go.Proofs.YtciddhkfbgkejaaDoor
