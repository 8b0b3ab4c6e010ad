/-
  HB12, US2, HR10 (merged for the claim).
-/
import Derived.Test.YtciddhkfbgkejaaGreatDoorHB11
import Derived.Test.YtciddhkfbgkejaaGreatDoorHM9
import Derived.Test.YtciddhkfbgkejaaGreatDoorDn
import Derived.LaidMore
import Derived.OpenShut
import Derived.Stop.Joined
import Derived.Test.YtciddhkfbgkejaaGreatDoorRows
import Derived.Test.YtciddhkfbgkejaaGreatDoorTie
import Derived.Test.YtciddhkfbgkejaaGreatDoorCards
import Derived.SevenTiedAt
import Derived.LaidSub
import Derived.MakeChecks
import Derived.Lib.LaidTab
set_option linter.unusedSimpArgs false
set_option linter.unusedVariables false
namespace Go.Proofs.YtciddhkfbgkejaaGreatDoor
open Go.Vl Go.RowKit Go.Dg
def rawS (s:Sg):Prop:=i64 s.f∧i64 s.t∧i64 s.o∧ ∀c∈s.ax,(∀x∈c,i64 x)∧c.length≤maxLen
theorem Zjv {s:Sg} (h:rawS s) (hl: ∀c∈s.ax,c.length≤1000):okSg s:=⟨h.1,h.2.1,h.2.2.1,fun c hc=>(h.2.2.2 c hc).1,hl⟩
set_option maxHeartbeats 8000000 in
set_option maxRecDepth 100000 in
theorem Qj3 (p:List Sg) (B:Bat) (l:List Wd) (hr:(∀s∈p,rawS s)∧p.length≤maxLen) (hl:l.length≤maxLen):Qad Tryz.prog 9 [.slc (p.map sgPV),baPV B,wsPV l] (.bool true):=by
 have hk:=Q2n
 have hf:=Zp9 p 6 (by decide) hr.2
 unfold Qbx at hf
 unfold baPV
 cases hF:fewB p 6 with
 |false=>
  rw [hF]at hf
  refine Qac (tb:=[]) 98 [.tmp 6] [0,1,2,4,6,7,8,9,10,11,12,13,14,22,69,71] mixed Tryz.func9 rfl (by kernel_rfl) (by kernel_rfl) (by kernel_rfl) (by kernel_rfl) ?_
  repeat (first|(simp -implicitDefEqProofs only [go_sem,Nat.reduceAdd,Nat.reduceMul,Nat.reduceEqDiff,Nat.reduceLT,Nat.reduceLeDiff,reduceCtorEq,Bool.not_false])|((with_reducible refine Qab (hf) ?_ ?_ ?_);(with_reducible rfl);rfl)|((with_reducible refine Qab (hk) ?_ ?_ ?_);(with_reducible rfl);rfl))
 |true=>
  rw [hF]at hf
  by_cases h12:12<l.length
  ·have h12':((12:Int)<(l.length:Int))=True:=eq_true (by omega)
   refine Qac (tb:=[]) 98 [.tmp 6] [0,1,2,4,6,7,8,9,10,11,12,13,14,22,69,71] mixed Tryz.func9 rfl (by kernel_rfl) (by kernel_rfl) (by kernel_rfl) (by kernel_rfl) ?_
   repeat (first|(simp -implicitDefEqProofs only [go_sem,Nat.reduceAdd,Nat.reduceMul,Nat.reduceEqDiff,Nat.reduceLT,Nat.reduceLeDiff,reduceCtorEq,Bool.not_true,h12',decide_true,List.length_map])|((with_reducible refine Qab (hf) ?_ ?_ ?_);(with_reducible rfl);rfl)|((with_reducible refine Qab (hk) ?_ ?_ ?_);(with_reducible rfl);rfl))
  have h12':((12:Int)<(l.length:Int))=False:=eq_false (by omega)
  obtain⟨l6,l8⟩:=Qye hF
  have hp: ∀s∈p,okSg s:=fun s hs=>Zjv (hr.1 s hs) (fun c hc=>by have:=l8 s hs c hc;omega)
  have c1:=Qr0 p B l hp hl (by omega)
  have c2:=Q2r p B l hp hl (by omega)
  have c3:=Qr1 p B l hp hl (by omega)
  have c4:=Q2m p B l hp hl (by omega)
  unfold Qbx baPV at c1 c2 c3 c4
  unfold enPV at c1 c4
  unfold lePV at c2
  unfold ehPV at c3
  clear hF hr
  cases hO:Qhw p B l with
  |false=>
   rw [hO]at c1 c2 c3 c4
   simp only [Bool.false_eq_true,if_false]at c1 c2 c3 c4
   refine Qac (tb:=[]) 98 [.tmp 6] [0,1,2,4,6,7,8,9,10,11,12,13,14,22,69,71] mixed Tryz.func9 rfl (by kernel_rfl) (by kernel_rfl) (by kernel_rfl) (by kernel_rfl) ?_
   repeat (first|(simp -implicitDefEqProofs only [go_sem,Nat.reduceAdd,Nat.reduceMul,Nat.reduceEqDiff,Nat.reduceLT,Nat.reduceLeDiff,reduceCtorEq,Bool.not_true,Bool.not_false,h12',decide_false,Zay,Que,beq_self_eq_true,bne_self_eq_false,List.length_map])|((with_reducible refine Qab (hf) ?_ ?_ ?_);(with_reducible rfl);rfl)|((with_reducible refine Qab (c1) ?_ ?_ ?_);(with_reducible rfl);rfl)|((with_reducible refine Qab (c2) ?_ ?_ ?_);(with_reducible rfl);rfl)|((with_reducible refine Qab (c3) ?_ ?_ ?_);(with_reducible rfl);rfl)|((with_reducible refine Qab (c4) ?_ ?_ ?_);(with_reducible rfl);rfl)|((with_reducible refine Qab (hk) ?_ ?_ ?_);(with_reducible rfl);rfl))
  |true=>
   rw [hO]at c1 c2 c3 c4
   simp only [if_true]at c1 c2 c3 c4
   obtain⟨hV,hB,hw⟩:=Qfy hO
   have hnn:=Qo9 (Qrz hV hB hw) p.length
   obtain⟨-, -, -,b1,b2,b3⟩:=Qcq hB
   have e:preI (csL l B p) p.length=totE l B p:=rfl
   rw [e]at hnn
   by_cases hT:totE l B p≤mxE
   ·rw [if_pos hT]at c1 c2 c3 c4
    unfold mxE at hT
    have hw1:IntKind.i64.wrap (B.cap-totE l B p)=B.cap-totE l B p:=Qah (by omega) (by omega)
    generalize totE l B p=T at*
    refine Qac (tb:=[]) 98 [.tmp 6] [0,1,2,4,6,7,8,9,10,11,12,13,14,22,69,71] mixed Tryz.func9 rfl (by kernel_rfl) (by kernel_rfl) (by kernel_rfl) (by kernel_rfl) ?_
    repeat (first|(simp -implicitDefEqProofs only [go_sem,Nat.reduceAdd,Nat.reduceMul,Nat.reduceEqDiff,Nat.reduceLT,Nat.reduceLeDiff,reduceCtorEq,Bool.not_true,Bool.not_false,h12',hw1,decide_false,Qud,Que,beq_self_eq_true,bne_self_eq_false,List.length_map])|((with_reducible refine Qab (hf) ?_ ?_ ?_);(with_reducible rfl);rfl)|((with_reducible refine Qab (c1) ?_ ?_ ?_);(with_reducible rfl);rfl)|((with_reducible refine Qab (c2) ?_ ?_ ?_);(with_reducible rfl);rfl)|((with_reducible refine Qab (c3) ?_ ?_ ?_);(with_reducible rfl);rfl)|((with_reducible refine Qab (c4) ?_ ?_ ?_);(with_reducible rfl);rfl)|((with_reducible refine Qab (hk) ?_ ?_ ?_);(with_reducible rfl);rfl))
   ·rw [if_neg hT]at c1 c2 c3 c4
    refine Qac (tb:=[]) 98 [.tmp 6] [0,1,2,4,6,7,8,9,10,11,12,13,14,22,69,71] mixed Tryz.func9 rfl (by kernel_rfl) (by kernel_rfl) (by kernel_rfl) (by kernel_rfl) ?_
    repeat (first|(simp -implicitDefEqProofs only [go_sem,Nat.reduceAdd,Nat.reduceMul,Nat.reduceEqDiff,Nat.reduceLT,Nat.reduceLeDiff,reduceCtorEq,Bool.not_true,Bool.not_false,h12',decide_false,Zaz,Que,beq_self_eq_true,bne_self_eq_false,List.length_map])|((with_reducible refine Qab (hf) ?_ ?_ ?_);(with_reducible rfl);rfl)|((with_reducible refine Qab (c1) ?_ ?_ ?_);(with_reducible rfl);rfl)|((with_reducible refine Qab (c2) ?_ ?_ ?_);(with_reducible rfl);rfl)|((with_reducible refine Qab (c3) ?_ ?_ ?_);(with_reducible rfl);rfl)|((with_reducible refine Qab (c4) ?_ ?_ ?_);(with_reducible rfl);rfl)|((with_reducible refine Qab (hk) ?_ ?_ ?_);(with_reducible rfl);rfl))
end Go.Proofs.YtciddhkfbgkejaaGreatDoor

namespace Go.Vl
open Go.RowKit
section
variable {H:Type} {enc:TypeId×Value→H}
theorem Qnn {a:Assume} {C:Checked} {os:Os} {f:FuncId} {fn:Func} {s:ChangeSpec} {conds:List PathCond} {apart fresh handsOn again:Bool} {tb:TypeId} {L:List (String×DataW Unit)} (tts:List TT)
  (own:ownKnob C.prog.godebug=none) (started:os.Started) (noInit:C.prog.inits.idxOf? f=none) (hfn:C.prog.funcs[f]? =some fn)
  (witness: ∃(w:World) (tape:Tape) (i:Input),w.os=os∧(w.forCall tape i).Shaped C.prog∧i.vars=[]∧Input.okWide C.prog (w.forCall tape i) .any w.heap.size f i∧
   ((s.pre enc C.prog fn conds apart (w.forCall tape i).memory i.args∧laidMetH C.prog L (w.forCall tape i).memory)∧sizedMet enc C.prog fn (OpenSpec.ofChange s) apart (w.forCall tape i).memory i.args)∧a.holds C.prog (lone (Frame.enter C.prog f i.args .normal) [] (w.forCall tape i)))
  (hl:laidOutB C.prog=true) (hvars:s.vars=[]) (hres:fn.resultTypes= #[tb]) (hbool:C.prog.underlying tb=some .bool) (hts:(fn.params.toList.all fun t=>C.prog.readableRec t&&decide (t<C.prog.types.size))=true)
  (hfit:Qkj C.prog tts fn.params.toList=true) (hs: ∀ds:List (DataW H),ds.length=tts.length→s.fn H ds={results:=[.lit (.bool true)],args:=ds})
  (hcl:callable C.prog f=true) (hlay: ∀W:World,laidMetH C.prog L W→Laid C.prog W.heap.size W) (law: ∀pvs,Qv1 tts pvs→Qad C.prog f pvs (.bool true)):
  ReturnsInHanded a C os f .any (fun w args=>(s.pre enc C.prog fn conds apart w args∧laidMetH C.prog L w)∧sizedMet enc C.prog fn (OpenSpec.ofChange s) apart w args) (s.post enc C.prog fn apart fresh handsOn again):=by
 refine returnsInHanded_of_change_and (X:=fun w _=>laidMetH C.prog L w) (fun _ _ _ hh h=>h.of_heap hh) own started noInit hfn witness ?_
 intro W base args ds gs before hval hW q1 q2 q3 q4
 have hW':=hW
 obtain⟨p,q,hA,hV,rfl,hz,hn⟩:=hW
 rw [hvars]at hV
 obtain⟨rfl,rfl⟩:=ChangeShapes.trodVars_none hV
 obtain⟨pvs,h1,h2,h3⟩:=Qx1 tts fn.params.toList args.toList ds p hfit (fun j t v e1 e2=>hval j t v (by simpa using e1) (by simpa using e2)) hA
 have hts': ∀t∈fn.params.toList,C.prog.readableRec t=true∧t<C.prog.types.size:=by
  intro t ht
  have:=List.all_eq_true.1 hts t ht
  simpa using this
 have hcall:=((law pvs h1).resolve_right (fun x=>by rw [hcl]at x;cases x.1)).2 W (exIm W) args.toList W.heap.size (Nat.le_refl _) (hlay W (by first|exact q1|exact q2|exact q3|exact q4)) h2 (fun g j x=>x)
 refine(by simpa using hcall:Calls C.prog f args W _).mono ?_
 rintro e W' ⟨v,rfl,hb,hr⟩
 have hv:v= .bool true:=by cases hr;rfl
 subst hv
 exact⟨_,rfl,Qv2 hl hvars hres hbool hts' hW' (by rw [List.append_nil];exact hs ds h3) hb⟩
end
end Go.Vl

namespace Go.Proofs.YtciddhkfbgkejaaGreatDoor
open Go.Vl Go.RowKit Go.Dg
theorem own:ownKnob Tryz.prog.godebug=none:=by kernel_rfl
theorem Zkf:laidOutB Tryz.prog=true:=by kernel_rfl
def Q3e:List (String×DataW Unit):=[("math/bits.deBruijn32tab",Rows.laid_math_bits_deBruijn32tab),("math/bits.deBruijn64tab",Rows.laid_math_bits_deBruijn64tab)]
theorem Za9 (os:Os) (args:Array Value):laidMetH Tryz.prog Q3e ((World.doorLaid Tryz.prog 62 os).forCall (fun _ _=>0) ⟨#[],args,[]⟩).memory:=
 laidMetH_of_parts3 (fuel:=8) (laidMet_of_run' 8 (by kernel_rfl) (by kernel_rfl)) (by kernel_rfl) (by kernel_rfl)
def Q3f:List Int:=Go.Lib.deBruijn64tab.map fun(z:Nat)=>(z:Int)
theorem hlay (W:World) (h:laidMetH Tryz.prog Q3e W):Laid Tryz.prog W.heap.size W:=by
 rintro nm tab (⟨rfl,rfl⟩|⟨rfl,rfl⟩) g hg
 ·have e:Tryz.prog.globalNamed Q7x=none:=by kernel_rfl
  rw [e]at hg;cases hg
 obtain rfl:g=1:=Option.some.inj (hg.symm.trans (by kernel_rfl))
 have hf:=h.filter (fun x=>x.1==Qmx)
 have e:Q3e.filter (fun x=>x.1==Qmx)=[(Qmx,Lib.tabData .u8 Q3f)]:=by kernel_rfl
 rw [e,MakeChecks.laidMetH_plain _ _ _ (by kernel_rfl)]at hf
 have ht:Lib.TabIs Tryz.prog W Qmx .u8 Q3f:=Lib.tabIs_of_head (g:=1) (t:=238) (e:=5) (n:=64) (by kernel_rfl) (by kernel_rfl) (by kernel_rfl) (by kernel_rfl) (by kernel_rfl) (by kernel_rfl) hf
 have e2:(Q3f.map fun z=>Value.int .u8 z).toArray=Q7y:=by kernel_rfl
 unfold Lib.TabIs at ht
 rw [e2]at ht
 refine⟨?_,ht⟩
 simp only [World.var?,hg,Option.bind_some]at ht
 cases hh:W.heap[(1:Nat)]? with
 |none=>rw [hh]at ht;cases ht
 |some o=>exact(Array.getElem?_eq_some_iff.1 hh).1
theorem Zba {k:IntKind} {c:List PV} (h:Qb4 (.int k) c): ∃n:Int,TT.mk (.int k) c= .int k n∧(Lit.int k n).wf=true:=by
 simp only [Qb4]at h
 obtain⟨x,rfl,hx⟩:=h
 exact⟨x,rfl,hx⟩
theorem Qc1 {n:Int} (h:(Lit.int .i64 n).wf=true): -9223372036854775808≤n∧n≤9223372036854775807:=by
 have:=h
 simp [Lit.wf,IntKind.min,IntKind.max,IntKind.signed,IntKind.bits]at this
 omega
theorem Zbb {c:List PV} (h:Qb4 (.int .i64) c): ∃n:Int,TT.mk (.int .i64) c= .int .i64 n∧i64 n:=by
 obtain⟨n,e,w⟩:=Zba h
 exact⟨n,e,Qc1 w⟩
def vecT:TT:= .agg [.int .i64,.int .i64,.int .i64]
def batT:TT:= .agg [.int .i64,.int .i64,.int .i64,.int .i64,.int .i64]
theorem Zbc {c:List PV} (h:Qb4 batT c): ∃B:Bat,batT.mk c=baPV B∧okBat B:=by
 simp only [batT,Qb4,Qft]at h
 obtain⟨_,_,rfl,⟨a,rfl,ha⟩,_,_,rfl,⟨b,rfl,hb⟩,_,_,rfl,⟨d,rfl,hd⟩,_,_,rfl,⟨e,rfl,he⟩,_,_,rfl,⟨f,rfl,hf⟩,rfl⟩:=h
 exact⟨⟨a,b,d,e,f⟩,rfl,Qc1 ha,Qc1 hb,Qc1 hd,Qc1 he,Qc1 hf⟩
def Qsi:TT:= .agg [vecT,vecT,.int .i64,.int .i64,vecT]
theorem Q3g {c:List PV} (h:Qb4 Qsi c): ∃w:Wd,Qsi.mk c=wdPV w:=by
 simp only [Qsi,vecT,Qb4,Qft]at h
 obtain⟨_,_,rfl,⟨_,_,rfl,⟨a1,rfl,_⟩,_,_,rfl,⟨a2,rfl,_⟩,_,_,rfl,⟨a3,rfl,_⟩,rfl⟩,_,_,rfl,⟨_,_,rfl,⟨b1,rfl,_⟩,_,_,rfl,⟨b2,rfl,_⟩,_,_,rfl,⟨b3,rfl,_⟩,rfl⟩,_,_,rfl,⟨f,rfl,_⟩,_,_,rfl,⟨t,rfl,_⟩,
  _,_,rfl,⟨_,_,rfl,⟨u1,rfl,_⟩,_,_,rfl,⟨u2,rfl,_⟩,_,_,rfl,⟨u3,rfl,_⟩,rfl⟩,rfl⟩:=h
 exact⟨⟨a1,a2,a3,b1,b2,b3,f,t,u1,u2,u3⟩,rfl⟩
theorem Qyo {c:List PV} (h:Qb4 (.slc Qsi) c): ∃l:List Wd,TT.mk (.slc Qsi) c=wsPV l∧l.length≤maxLen:=by
 simp only [Qb4]at h
 obtain⟨ess,rfl,hm,h⟩:=h
 have key: ∀ess:List (List PV),(∀c∈ess,Qb4 Qsi c)→ ∃l:List Wd,ess.map Qsi.mk=l.map wdPV∧l.length=ess.length:=by
  intro ess
  induction ess with
  |nil=>exact fun _=>⟨[],rfl,rfl⟩
  |cons c cs ih=>
   intro h
   obtain⟨s,e⟩:=Q3g (h c (by simp))
   obtain⟨l,hl,hn⟩:=ih (fun c hc=>h c (by simp [hc]))
   exact⟨s::l,by simp [e,hl],by simp [hn]⟩
 obtain⟨l,e,hn⟩:=key ess h
 exact⟨l,by simp only [TT.mk,List.headD_cons];rw [e],by omega⟩
def segT:TT:= .agg [.int .i64,.int .i64,.int .i64,.slc (.int .i64),.slc (.int .i64),.slc (.int .i64)]
theorem Qiy: ∀ess:List (List PV),(∀c∈ess,Qb4 (.int .i64) c)→ ∃l:List Int,ess.map (TT.mk (.int .i64))=l.map (PV.int .i64)∧l.length=ess.length∧ ∀x∈l,i64 x
 | [],_=>⟨[],rfl,rfl,fun _ h=>nomatch h⟩
 |c::cs,h=>by
  obtain⟨n,e,b⟩:=Zbb (h c (by simp))
  obtain⟨l,hl,hn,hx⟩:=Qiy cs (fun c hc=>h c (by simp [hc]))
  refine⟨n::l,by simp [e,hl],by simp [hn],fun x hx'=> ?_⟩
  cases hx' with
  |head=>exact b
  |tail _ h=>exact hx x h
theorem Zbd {c:List PV} (h:Qb4 segT c): ∃s:Sg,segT.mk c=sgPV s∧rawS s:=by
 simp only [segT,Qb4,Qft]at h
 obtain⟨_,_,rfl,⟨f,rfl,hf⟩,_,_,rfl,⟨t,rfl,ht⟩,_,_,rfl,⟨o,rfl,ho⟩,_,_,rfl,⟨ex,rfl,mx,hx⟩,_,_,rfl,⟨ey,rfl,my,hy⟩,_,_,rfl,⟨ez,rfl,mz,hz⟩,rfl⟩:=h
 obtain⟨lx,e1,n1,b1⟩:=Qiy ex (fun c hc=>by have:=hx c hc;simpa only [Qb4]using this)
 obtain⟨ly,e2,n2,b2⟩:=Qiy ey (fun c hc=>by have:=hy c hc;simpa only [Qb4]using this)
 obtain⟨lz,e3,n3,b3⟩:=Qiy ez (fun c hc=>by have:=hz c hc;simpa only [Qb4]using this)
 refine⟨⟨f,t,o,lx,ly,lz⟩,?_,Qc1 hf,Qc1 ht,Qc1 ho,?_⟩
 ·show PV.agg [.int .i64 f,.int .i64 t,.int .i64 o,.slc (ex.map (TT.mk (.int .i64))),.slc (ey.map (TT.mk (.int .i64))),.slc (ez.map (TT.mk (.int .i64)))]=_
  rw [e1,e2,e3];rfl
 ·intro c hc
  simp only [Sg.ax,List.mem_cons,List.not_mem_nil,or_false]at hc
  rcases hc with rfl|rfl|rfl
  ·exact⟨b1,by omega⟩
  ·exact⟨b2,by omega⟩
  ·exact⟨b3,by omega⟩
theorem Q3h {c:List PV} (h:Qb4 (.slc segT) c): ∃p:List Sg,TT.mk (.slc segT) c= .slc (p.map sgPV)∧((∀s∈p,rawS s)∧p.length≤maxLen):=by
 simp only [Qb4]at h
 obtain⟨ess,rfl,hm,h⟩:=h
 have key: ∀ess:List (List PV),(∀c∈ess,Qb4 segT c)→ ∃l:List Sg,ess.map segT.mk=l.map sgPV∧l.length=ess.length∧ ∀s∈l,rawS s:=by
  intro ess
  induction ess with
  |nil=>exact fun _=>⟨[],rfl,rfl,fun _ h=>nomatch h⟩
  |cons c cs ih=>
   intro h
   obtain⟨s,e,b⟩:=Zbd (h c (by simp))
   obtain⟨l,hl,hn,hx⟩:=ih (fun c hc=>h c (by simp [hc]))
   refine⟨s::l,by simp [e,hl],by simp [hn],fun x hx'=> ?_⟩
   cases hx' with
   |head=>exact b
   |tail _ h=>exact hx x h
 obtain⟨l,e,hn,hx⟩:=key ess h
 exact⟨l,by simp only [TT.mk,List.headD_cons];rw [e],hx,by omega⟩
def Zkg:Value:= .agg #[.int .i64 0,.int .i64 0,.int .i64 0,.int .i64 0,.int .i64 0]
end Go.Proofs.YtciddhkfbgkejaaGreatDoor
