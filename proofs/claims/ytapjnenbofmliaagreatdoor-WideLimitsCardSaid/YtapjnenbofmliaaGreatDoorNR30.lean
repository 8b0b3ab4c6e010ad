/-
  US2, NR30 (merged for the claim).
-/
import Derived.Test.YtapjnenbofmliaaGreatDoorUV
import Derived.LaidMore
import Derived.OpenShut
import Derived.Stop.Joined
import Derived.Test.YtapjnenbofmliaaGreatDoorNT11
import Derived.Test.YtapjnenbofmliaaGreatDoorRows
import Derived.Test.YtapjnenbofmliaaGreatDoorTie
import Derived.Test.YtapjnenbofmliaaGreatDoorCards
import Derived.SevenTiedAt
import Derived.LaidSub
import Derived.MakeChecks
import Derived.Lib.LaidTab
import Derived.Lib.ItoaNum
set_option linter.unusedSimpArgs false
set_option linter.unusedVariables false
namespace Go.Vl
open Go.RowKit
section
variable {H:Type} {enc:TypeId×Value→H}
theorem Qkw {a:Assume} {C:Checked} {os:Os} {f:FuncId} {fn:Func} {s:ChangeSpec} {conds:List PathCond} {apart fresh handsOn again:Bool} {tb:TypeId} {L:List (String×DataW Unit)} (tts:List TT)
  (own:ownKnob C.prog.godebug=none) (started:os.Started) (noInit:C.prog.inits.idxOf? f=none) (hfn:C.prog.funcs[f]? =some fn)
  (witness: ∃(w:World) (tape:Tape) (i:Input),w.os=os∧(w.forCall tape i).Shaped C.prog∧i.vars=[]∧Input.okWide C.prog (w.forCall tape i) .any w.heap.size f i∧
   ((s.pre enc C.prog fn conds apart (w.forCall tape i).memory i.args∧laidMetH C.prog L (w.forCall tape i).memory)∧sizedMet enc C.prog fn (OpenSpec.ofChange s) apart (w.forCall tape i).memory i.args)∧a.holds C.prog (lone (Frame.enter C.prog f i.args .normal) [] (w.forCall tape i)))
  (hl:laidOutB C.prog=true) (hvars:s.vars=[]) (hres:fn.resultTypes= #[tb]) (hbool:C.prog.underlying tb=some .bool) (hts:(fn.params.toList.all fun t=>C.prog.readableRec t&&decide (t<C.prog.types.size))=true)
  (hfit:Qh4 C.prog tts fn.params.toList=true) (hs: ∀ds:List (DataW H),ds.length=tts.length→s.fn H ds={results:=[.lit (.bool true)],args:=ds})
  (hcl:callable C.prog f=true) (hlay: ∀W:World,laidMetH C.prog L W→Laid C.prog W.heap.size W) (law: ∀pvs,Qrz tts pvs→Qag C.prog f pvs (.bool true)):
  ReturnsInHanded a C os f .any (fun w args=>(s.pre enc C.prog fn conds apart w args∧laidMetH C.prog L w)∧sizedMet enc C.prog fn (OpenSpec.ofChange s) apart w args) (s.post enc C.prog fn apart fresh handsOn again):=by
 refine returnsInHanded_of_change_and (X:=fun w _=>laidMetH C.prog L w) (fun _ _ _ hh h=>h.of_heap hh) own started noInit hfn witness ?_;intro W base args ds gs before hval hW q1 q2 q3 q4;have hW':=hW;obtain⟨p,q,hA,hV,rfl,hz,hn⟩:=hW;rw [hvars]at hV;obtain⟨rfl,rfl⟩:=ChangeShapes.trodVars_none hV;obtain⟨pvs,h1,h2,h3⟩:=Qtj tts fn.params.toList args.toList ds p hfit (fun j t v e1 e2=>hval j t v (by simpa using e1) (by simpa using e2)) hA;have hts': ∀t∈fn.params.toList,C.prog.readableRec t=true∧t<C.prog.types.size:=by
  intro t ht;have:=List.all_eq_true.1 hts t ht;simpa using this
 have hcall:=((law pvs h1).resolve_right (fun x=>by rw [hcl]at x;cases x.1)).2 W (exIm W) args.toList W.heap.size (Nat.le_refl _) (hlay W (by first|exact q1|exact q2|exact q3|exact q4)) h2 (fun g j x=>x);refine(by simpa using hcall:Calls C.prog f args W _).mono ?_;rintro e W' ⟨v,rfl,hb,hr⟩;have hv:v= .bool true:=by cases hr;rfl
 subst hv;exact⟨_,rfl,Qr0 hl hvars hres hbool hts' hW' (by rw [List.append_nil];exact hs ds h3) hb⟩
end
end Go.Vl

namespace Go.Proofs.YtapjnenbofmliaaGreatDoor
open Go.Vl Go.RowKit
theorem own:ownKnob Tryz.prog.godebug=none:=by kernel_rfl
theorem Q83:laidOutB Tryz.prog=true:=by kernel_rfl
def Qtu:List (String×DataW Unit):=[("math/bits.deBruijn32tab",Rows.laid_math_bits_deBruijn32tab),("math/bits.deBruijn64tab",Rows.laid_math_bits_deBruijn64tab),("internal/strconv.uint64pow10",Rows.laid_internal_strconv_uint64pow10),("strconv.ErrRange",Rows.laid_strconv_ErrRange),("strconv.ErrSyntax",Rows.laid_strconv_ErrSyntax)]
theorem Q2l (os:Os) (args:Array Value):laidMetH Tryz.prog Qtu ((World.doorLaid Tryz.prog 62 os).forCall (fun _ _=>0) ⟨#[],args,[]⟩).memory:=
 laidMetH_of_parts3 (fuel:=8) (laidMet_of_run' 8 (by kernel_rfl) (by kernel_rfl)) (by kernel_rfl) (by kernel_rfl)
def Qws:List Int:=Go.Lib.deBruijn64tab.map fun(z:Nat)=>(z:Int)
theorem hlay (W:World) (h:laidMetH Tryz.prog Qtu W):Laid Tryz.prog W.heap.size W:=by
 rintro nm tab (⟨rfl,rfl⟩|⟨rfl,rfl⟩) g hg
 ·obtain rfl:g=2:=Option.some.inj (hg.symm.trans (by kernel_rfl));have hf:=h.filter (fun x=>x.1==Qhr);have e:Qtu.filter (fun x=>x.1==Qhr)=[(Qhr,Lib.tabData .u64 Lib.pow10Tab)]:=by kernel_rfl
  rw [e,MakeChecks.laidMetH_plain _ _ _ (by kernel_rfl)]at hf;have ht:Lib.TabIs Tryz.prog W Qhr .u64 Lib.pow10Tab:=Lib.tabIs_of_head (g:=2) (t:=141) (e:=66) (n:=20) (by kernel_rfl) (by kernel_rfl) (by kernel_rfl) (by kernel_rfl) (by kernel_rfl) (by kernel_rfl) hf;have e2:(Lib.pow10Tab.map fun z=>Value.int .u64 z).toArray=Qsq:=by kernel_rfl
  unfold Lib.TabIs at ht;rw [e2]at ht;refine⟨?_,ht⟩;simp only [World.var?,hg,Option.bind_some]at ht;cases hh:W.heap[(2:Nat)]? with
  |none=>rw [hh]at ht;cases ht
  |some o=>exact(Array.getElem?_eq_some_iff.1 hh).1
 ·obtain rfl:g=7:=Option.some.inj (hg.symm.trans (by kernel_rfl));have hf:=h.filter (fun x=>x.1==Qom);have e:Qtu.filter (fun x=>x.1==Qom)=[(Qom,Lib.tabData .u8 Qws)]:=by kernel_rfl
  rw [e,MakeChecks.laidMetH_plain _ _ _ (by kernel_rfl)]at hf;have ht:Lib.TabIs Tryz.prog W Qom .u8 Qws:=Lib.tabIs_of_head (g:=7) (t:=158) (e:=5) (n:=64) (by kernel_rfl) (by kernel_rfl) (by kernel_rfl) (by kernel_rfl) (by kernel_rfl) (by kernel_rfl) hf;have e2:(Qws.map fun z=>Value.int .u8 z).toArray=Zd1:=by kernel_rfl
  unfold Lib.TabIs at ht;rw [e2]at ht;refine⟨?_,ht⟩;simp only [World.var?,hg,Option.bind_some]at ht;cases hh:W.heap[(7:Nat)]? with
  |none=>rw [hh]at ht;cases ht
  |some o=>exact(Array.getElem?_eq_some_iff.1 hh).1
theorem Q2m {k:IntKind} {c:List PV} (h:Qce (.int k) c): ∃n:Int,TT.mk (.int k) c= .int k n∧(Lit.int k n).wf=true:=by
 simp only [Qce]at h;obtain⟨x,rfl,hx⟩:=h;exact⟨x,rfl,hx⟩
theorem Qtv {n:Int} (h:(Lit.int .i64 n).wf=true): -9223372036854775808≤n∧n≤9223372036854775807:=by
 have:=h;simp [Lit.wf,IntKind.min,IntKind.max,IntKind.signed,IntKind.bits]at this;omega
theorem Qwt {c:List PV} (h:Qce .bool c): ∃b:Bool,TT.mk .bool c= .bool b:=by
 simp only [Qce]at h;obtain⟨b,rfl⟩:=h;exact⟨b,rfl⟩
end Go.Proofs.YtapjnenbofmliaaGreatDoor
