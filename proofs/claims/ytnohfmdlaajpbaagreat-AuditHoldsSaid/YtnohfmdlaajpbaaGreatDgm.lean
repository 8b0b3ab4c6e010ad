/-
  UYN, Bx, Dq, Dr, Ds, Du, Dsg, Dgl, Dau, Dgm (merged for the claim).
-/
import Derived.Test.YtnohfmdlaajpbaaGreatUYG
import Derived.Test.YtnohfmdlaajpbaaGreatULD
import Derived.Test.YtnohfmdlaajpbaaGreatUC
set_option linter.unusedSimpArgs false
set_option linter.unusedVariables false
namespace Go.Vl
open Go.RowKit
def plus (ρ ρc:Rho) (n:Nat):Rho:=fun b=>if b=0 then some (some n)else if b=1 then some (some (n+1))else if b%2=0 then ρ (b/2-1)else ρc (b/2-1)
theorem Qcw {ρ ρc:Rho} {n:Nat}:Own (plus ρ ρc n)=fun g=>g=n∨g=n+1∨Own ρ g∨Own ρc g:=by
 funext g;apply propext;constructor
 ·rintro⟨b,hb⟩;unfold plus at hb;split at hb
  ·cases hb;exact .inl rfl
  ·split at hb
   ·cases hb;exact .inr (.inl rfl)
   ·split at hb
    ·exact .inr (.inr (.inl ⟨_,hb⟩))
    ·exact .inr (.inr (.inr ⟨_,hb⟩))
 ·rintro(rfl|rfl|⟨b,hb⟩|⟨b,hb⟩)
  ·exact⟨0,rfl⟩
  ·exact⟨1,rfl⟩
  ·refine⟨2*b+2,?_⟩;unfold plus;rw [if_neg (by omega),if_neg (by omega),if_pos (by omega),show(2*b+2)/2-1=b by omega];exact hb
  ·refine⟨2*b+3,?_⟩;unfold plus;rw [if_neg (by omega),if_neg (by omega),if_neg (by omega),show(2*b+3)/2-1=b by omega];exact hb
open Classical in
noncomputable def Znv (own:Nat→Prop):Rho:=fun b=>if own b then some (some b)else none
theorem Zd0 {own:Nat→Prop}:Own (Znv own)=own:=by
 funext g;apply propext;constructor
 ·rintro⟨b,hb⟩;unfold Znv at hb;split at hb
  ·cases hb;assumption
  ·cases hb
 ·intro h;exact⟨g,by unfold Znv;rw [if_pos h]⟩
def Takes (C:Ctx):Prop:= ∀{own:Nat→Prop} {im:Im} {w':World} (o:List (List PV)) (D:Nat),C.base≤D→w'.heap[D]? =some (.deferred (some []))→C.J own im o w'→C.J own im o (w'.putObj D (.deferred none))
def VwpN (P:Program) (nt:Nat) (c:Code) (Q:Exit→St→Prop) (st:St):Prop:=
 ∀(C:Ctx),C.P=P→C.nt=nt→C.rnd=false→Takes C→ ∀(a:Act) (w:World),Rel C st a w→c.wpIn (FW none) 0 P (fun e a' w'=> ∃st',Q e st'∧Rel C st' a' w') a w
section
variable {P:Program} {nt:Nat} {Q:Exit→St→Prop} {st:St}
theorem Zwl {c:Code} (h:Vwp P nt c Q st):VwpN P nt c Q st:=fun C h1 h2 _ _ a w hr=>h C h1 h2 ⟨none,fun _=>rfl⟩ a w hr
theorem Znw {x y:Code} (h:VwpN P nt x (vthen (VwpN P nt y Q) Q) st):VwpN P nt (.seq x y) Q st:=fun C h1 h2 h3 h4 a w hr=>
 wpIn_seq (wpIn_mono (h C h1 h2 h3 h4 a w hr) fun e a' w' ⟨s,q,r⟩=>by
  cases e with
  |normal=>exact q C h1 h2 h3 h4 a' w' r
  |_=>exact⟨s,q,r⟩)
end
def Qny (C:Ctx) (n:Nat) (ρc:Rho) (w:World) (im:Im) (ρ:Rho) (hF:C.F≤w.heap.size) (hlay:Laid C.P C.F w) (hn:n+2≤w.heap.size) (hB:C.base≤w.heap.size) (hρ: ∀g,Own ρ g→C.base≤g) (hc: ∀g,Own ρc g→g<w.heap.size):Ctx where
 P:=C.P
 w0:=w
 F:=C.F
 hF:=hF
 lay:=hlay
 im0:=im
 nt:=C.nt
 ρ0:=ρ
 X:=fun k=>((C.X k∨C.base≤k)∧ ¬(k=n∨k=n+1∨Own ρc k))∨Own ρ k
 hX:=fun _ h=> .inr h
 hXF:=fun g h=>by
  rcases h with⟨h|h,_⟩|h
  ·exact C.hXF g h
  ·exact Nat.le_trans C.hF h
  ·exact Nat.le_trans C.hF (hρ g h)
 J:=fun own im o w=>C.J (fun g=>g=n∨g=n+1∨own g∨Own ρc g) im o w
 hJ:=fun{ρ im w ρ' im' w'} o s h=>by
  have:=C.hJ (ρ:=plus ρ ρc n) (ρ':=plus ρ' ρc n) (im:=im) (w:=w) (im':=im') (w':=w') o ⟨s.lent.mono (Nat.le_refl _) (fun k _ x=>by rw [Qcw];exact .inr (.inr (.inl x))),s.keep,fun g x=>by
   rw [Qcw]at x ⊢;rcases x with x|x|x|x
   ·exact .inl (.inl x)
   ·exact .inl (.inr (.inl x))
   ·exact(s.own g x).imp (fun y=> .inr (.inr (.inl y))) id
   ·exact .inl (.inr (.inr (.inr x))),s.mono,fun g j x=>(s.imn g j x).imp id fun y=>y.imp (fun z=>by rw [Qcw];exact .inr (.inr (.inl z))) id⟩
  rw [Qcw,Qcw]at this;exact this h
 yl:=C.yl
 hY:=fun{l stop outs} e {ρ im w'} o args us h1 h2 h3 h4 h5 h6 h7=>by
  obtain⟨fn,tmps,assign,body,e1,e2⟩:=C.hY e (ρ:=plus ρ ρc n) (im:=im) (w:=w') o args us h1 h2 (by rw [Qcw];exact h3) (fun g x=>by
   rw [Qcw]at x;rcases x with x|x|x|x
   ·omega
   ·omega
   ·exact h4 g x
   ·exact Nat.lt_of_lt_of_le (hc g x) h7) h5 h6 (Nat.le_trans hB h7)
  refine⟨fn,tmps,assign,body,e1,e2.mono ?_⟩;rintro e w'' ⟨k1,T,k2⟩;rw [Qcw]at k2;have hown: ∀g,(g=n∨g=n+1∨Own ρ g∨Own ρc g)→w''.heap[g]? =w'.heap[g]? :=fun g x=>T.own g (by rw [Qcw];exact x);refine⟨k1,⟨⟨T.lent.os,T.lent.tape,T.lent.output,T.lent.size,fun k hk hx=> ?_⟩,T.keep,fun g x=>hown g (.inr (.inr (.inl x)))⟩,k2⟩;by_cases hs:k=n∨k=n+1∨Own ρc k
  ·rcases hs with q|q|q
   ·exact hown k (.inl q)
   ·exact hown k (.inr (.inl q))
   ·exact hown k (.inr (.inr (.inr q)))
  ·by_cases hz:C.X k∨C.base≤k
   ·exact absurd (.inl ⟨hz,hs⟩) hx
   ·exact T.lent.block k (Nat.lt_of_not_le fun q=>hz (.inr q)) fun q=>hz (.inl q)
structure GoingN (C:Ctx) (n:Nat) (w:World) (im:Im) (tm:Array Value) (vs:List (Nat×PV)) (ok:List (List PV)) (r:Loop) (own:Nat→Prop) (imc:Im) (W:World) (imb:Im):Prop where
 lw:Lent (fun k=>C.X k∨C.base≤k) w.heap.size w W
 kw:Keeps im w W
 imm: ∀g j,im g j→imb g j
 im1: ∀g j,imb g j→im g j∨C.base≤g
 imcn: ∀g j,imc g j→im g j∨C.base≤g
 raw:Raw C.nt (St.ofG vs [] [] none) tm W (fun _=>none) imb
 out: ∀g j,imb g j→imc g j∨ ¬own g
 apart: ∀g,own g→n+2≤g
 ghost:C.J (fun g=>g=n∨g=n+1∨own g) (fun g j=>imb g j∨imc g j) ok W
 recd:W.heap[n+1]? =some (.loop r)
 mark:W.heap[n]? =some (.deferred (some []))
theorem Qcz {ρc:Rho} {n:Nat}:Own (plus (fun _=>none) ρc n)=fun g=>g=n∨g=n+1∨Own ρc g:=by
 rw [Qcw];funext g;apply propext;constructor
 ·rintro(x|x|x|x)
  ·exact .inl x
  ·exact .inr (.inl x)
  ·exact absurd x (Qb6 g)
  ·exact .inr (.inr x)
 ·rintro(x|x|x)
  ·exact .inl x
  ·exact .inr (.inl x)
  ·exact .inr (.inr (.inr x))
theorem GoingN.step' {C:Ctx} {n:Nat} {w:World} {im:Im} {tm:Array Value} {vs:List (Nat×PV)} {ok:List (List PV)} {r:Loop} {ρc ρc':Rho} {imc imc':Im} {W W':World} {imb:Im} (hn:n=w.heap.size) (hB:C.base≤n)
  (h:GoingN C n w im tm vs ok r (Own ρc) imc W imb) (s:Step ρc imc W ρc' imc' W'):GoingN C n w im tm vs ok r (Own ρc') imc' W' imb:=by
 have hsz:n+1<W.heap.size:=(Array.getElem?_eq_some_iff.1 h.recd).1;have hno: ∀k,k<n+2→ ¬Own ρc k:=fun k hk x=>by have:=h.apart k x;omega
 have hk:Keeps (fun g j=>imb g j∨imc g j) W W':=⟨fun g j hi=>by
  rcases hi with hi|hi
  ·rcases h.out g j hi with x|x
   ·exact s.keep.cell g j x
   ·obtain⟨u,hu⟩:=h.raw.imc g j hi;have hlt:g<W.heap.size:=World.block_lt_of_cell? W _ hu;exact World.cell?_of_block (w:=W) (a:=⟨g,j,none⟩) (s.lent.block g hlt x)
  ·exact s.keep.cell g j hi,s.keep.obj,s.keep.oth⟩
 have hkb:Keeps imb W W':=⟨fun g j x=>hk.cell g j (.inl x),hk.obj,hk.oth⟩;have hg:=C.hJ (ρ:=plus (fun _=>none) ρc n) (ρ':=plus (fun _=>none) ρc' n) (im:=fun g j=>imb g j∨imc g j) (w:=W) (im':=fun g j=>imb g j∨imc' g j) (w':=W') ok ⟨s.lent.mono (Nat.le_refl _) (fun k _ x=>by rw [Qcz];exact .inr (.inr x)),hk,fun g x=>by
   rw [Qcz]at x ⊢;rcases x with x|x|x
   ·exact .inl (.inl x)
   ·exact .inl (.inr (.inl x))
   ·exact(s.own g x).imp (fun y=> .inr (.inr y)) id,fun g j x=>x.imp id (s.mono g j),fun g j x=>by
   rcases x with x|x
   ·exact .inl (.inl x)
   ·rcases s.imn g j x with y|y|y
    ·exact .inl (.inr y)
    ·exact .inr (.inl (by rw [Qcz];exact .inr (.inr y)))
    ·exact .inr (.inr y)⟩
 rw [Qcz,Qcz]at hg;refine⟨h.lw.trans (s.lent.mono h.lw.size fun k hk x=>absurd x (hno k (by omega))),h.kw.trans hkb h.imm,h.imm,h.im1,?_,h.raw.world hkb fun g x=>absurd x (Qb6 g),?_,?_,hg h.ghost,?_,?_⟩
 ·intro g j x;rcases s.imn g j x with y|y|y
  ·exact h.imcn g j y
  ·have:=h.apart g y;exact .inr (by omega)
  ·exact .inr (by omega)
 ·intro g j x;rcases h.out g j x with y|y
  ·exact .inl (s.mono g j y)
  ·refine .inr fun z=> ?_;rcases s.own g z with q|q
   ·exact y q
   ·obtain⟨u,hu⟩:=h.raw.imc g j x;have hlt:g<W.heap.size:=World.block_lt_of_cell? W _ hu;omega
 ·intro g x;rcases s.own g x with y|y
  ·exact h.apart g y
  ·omega
 ·rw [s.lent.block _ hsz (hno _ (by omega))];exact h.recd
 ·rw [s.lent.block _ (by omega) (hno _ (by omega))];exact h.mark
theorem GoingN.unmark {C:Ctx} {n:Nat} {w:World} {im:Im} {tm:Array Value} {vs:List (Nat×PV)} {ok:List (List PV)} {r:Loop} {own:Nat→Prop} {imc:Im} {W:World} {imb:Im} {D:Nat} (hT:Takes C) (hn:n=w.heap.size) (hB:C.base≤n)
  (h:GoingN C n w im tm vs ok r own imc W imb) (hD:n+2≤D) (hd:W.heap[D]? =some (.deferred (some []))):GoingN C n w im tm vs ok r own imc (W.putObj D (.deferred none)) imb:=by
 have hoth: ∀g,g≠D→(W.putObj D (.deferred none)).heap[g]? =W.heap[g]? :=fun g hg=>Qa9 W D _ g hg;have hsz:(W.putObj D (.deferred none)).heap.size=W.heap.size:=by simp [World.putObj]
 refine⟨⟨h.lw.os,h.lw.tape,h.lw.output,by rw [hsz];exact h.lw.size,fun k hk hx=>(hoth k (by omega)).trans (h.lw.block k hk hx)⟩,⟨fun g j x=> ?_,fun g cur e hg=> ?_,fun g o hg ho=> ?_⟩,h.imm,h.im1,h.imcn,h.raw.unmark hd,h.out,h.apart,hT ok D (by omega) hd h.ghost,(hoth _ (by omega)).trans h.recd,(hoth _ (by omega)).trans h.mark⟩
 ·obtain⟨u,hu⟩:=h.raw.imc g j (h.imm g j x);rw [Qfz hd hu];exact h.kw.cell g j x
 ·obtain⟨cur',e1,e2⟩:=h.kw.obj g cur e hg;exact⟨cur',by rw [hoth g (by rintro rfl;rw [hd]at e1;cases e1)];exact e1,e2⟩
 ·have hlt:=(Array.getElem?_eq_some_iff.1 hg).1;rw [hoth g (by omega)];exact h.kw.oth g o hg ho
theorem Raw.relN {C:Ctx} {n:Nat} {ρc:Rho} {w:World} {im:Im} {ρ:Rho} {hF:C.F≤w.heap.size} {hlay:Laid C.P C.F w} {hn:n+2≤w.heap.size} {hB:C.base≤w.heap.size} {hρ: ∀g,Own ρ g→C.base≤g} {hc: ∀g,Own ρc g→g<w.heap.size} {st:St} {tm:Array Value}
  (h:Raw C.nt st tm w ρ im) (hg:C.J (fun g=>g=n∨g=n+1∨Own ρ g∨Own ρc g) im st.out w) (hy:st.yl=C.yl):Rel' (Qny C n ρc w im ρ hF hlay hn hB hρ hc) st {tmps:=tm,defers:=[]} w ρ im where
 root:=⟨.refl _ _ _,Keeps.refl _ _,fun _ _ x=>x,fun _ _ x=> .inl x,fun b x x' _ h0 hx=>by rw [show(Qny C n ρc w im ρ hF hlay hn hB hρ hc).ρ0 b=ρ b from rfl]at h0;rw [h0]at hx;exact(Option.some.inj hx).symm,hg,hy⟩
 nt:=h.nt
 dfr:=⟨fun _=>rfl,[],rfl,by simp,by simp⟩
 imc:=h.imc
 var:=h.var
 rho:=h.rho
 box:=fun b x B hx hB=>(h.box b x B hx hB).own fun g e=> .inr ⟨b,by rw [←e];exact hx⟩
 inj:=h.inj
theorem Qub {C:Ctx} {n:Nat} {ρ ρc:Rho} {im:Im} {o:List (List PV)} {W:World} {r r':Loop} (hl:W.heap[n+1]? =some (.loop r)) (h:C.J (fun g=>g=n∨g=n+1∨Own ρ g∨Own ρc g) im o W):
  C.J (fun g=>g=n∨g=n+1∨Own ρ g∨Own ρc g) im o (W.putObj (n+1) (.loop r')):=by
 have:=C.hJ (ρ:=plus ρ ρc n) (ρ':=plus ρ ρc n) (im:=im) (w:=W) (im':=im) (w':=W.putObj (n+1) (.loop r')) o ⟨⟨rfl,rfl,rfl,by simp,fun k _ hx=>Qa9 W _ _ k fun e=>hx (by rw [Qcw];exact .inr (.inl e))⟩,Qcc hl,fun _ x=> .inl x,fun _ _ x=>x,fun _ _ x=> .inl x⟩;rw [Qcw]at this;exact this h
def Qnz (O:Nat→List (List PV)) (y:Yl) (stop2:Nat) (jump:Exit) (k:Nat):Exit→St→Prop
 | .normal,s=>k<stop2∧Le s (St.ofG [] [] (O (k+1)) y)
 | .ret,s=>k=stop2∧jump= .ret∧Le s (St.ofG [] [] (O (k+1)) y)
 | .exit id,s=>k=stop2∧jump= .exit id∧Le s (St.ofG [] [] (O (k+1)) y)
 |_,_=>False
theorem Q3k {P:Program} {nt:Nat} {Q:Exit→St→Prop} {vs0:List (Nat×PV)} {bs0:List (Nat×Box)} {l stop:Nat} {outs:List (List PV)} {g:Operand} {ps:Array Tmp} {assign body:Code} {f:FuncId} {cap xs:List PV} {es:List Eff} {la:Acc} {outs2:List (List PV)}
  (O:Nat→List (List PV)) (hg:(St.ofG vs0 bs0 (O 0) (some (l,stop,outs))).ev g=some (.fn f [] cap)) (he:Qev cap (lkp bs0)=some ((xs,es),la)) (hs:Qf3 P f xs outs2)
  (bs1:List (Nat×Box)) (he1:Qan es (St.ofG vs0 bs0 (O 0) (some (l,stop,outs)))=St.ofG vs0 bs1 (O 0) (some (l,stop,outs))) (vs:List (Nat×PV)) (hv:Qac [] vs0 vs)
  (stop2:Nat) (jump:Exit) (hjump:stop2<outs2.length→(Qjo jump).isSome=true)
  (hps: ∀(k:Nat) (args:List PV),outs2[k]? =some args→args.length=ps.size) (hpt:(ps.toList.all fun t=>Nat.blt t nt)=true)
  (hbody: ∀(k:Nat) (args:List PV),outs2[k]? =some args→k≤stop2→Vwp P nt assign (vthen (fun s=>Vwp P nt body (Qnz O (some (l,stop,outs)) stop2 jump k) s) (fun _ _=>False)) (St.ofG (pvars ps.toList args vs) [] (O k) (some (l,stop,outs))))
  (hQ:Q (if outs2.length≤stop2 then .normal else jump) (St.ofG vs [] (O (min outs2.length (stop2+1))) (some (l,stop,outs)))):VwpN P nt (.rangeFunc g ps assign body) Q (St.ofG vs0 bs0 (O 0) (some (l,stop,outs))):=by
 rintro C rfl rfl hrn hT a w ⟨ρ,im00,h00⟩;have hyl:C.yl=some (l,stop,outs):=h00.root.yl.symm;have hgv:=Qs2 h00 hg;obtain⟨ua,ub,hgu,hua,hub⟩:=hgv.fn_inv;cases hua.nil_inv;obtain⟨im,g1,r1⟩:=Qfa h00 (Qet _) hub he;have h:=g1.rel;rw [he1]at h;obtain⟨hcal,hs⟩:=hs;obtain⟨fnf,hff,hfb,hfn⟩: ∃fn,C.P.funcs[f]? =some fn∧fn.body.isSome=true∧(fn.name== "runtime.NumGoroutine")=false:=by
  unfold callable at hcal;split at hcal
  ·rename_i fn e;simp only [Bool.and_eq_true,Bool.not_eq_true']at hcal;exact⟨fn,e,hcal.1,hcal.2⟩
  ·cases hcal
 have hlaid:=h.laid;have hBn:C.base≤w.heap.size:=h.root.below.size;obtain⟨n,hn⟩: ∃n,n=w.heap.size:=⟨_,rfl⟩;obtain⟨W1,hW1⟩: ∃W1:Loop→World,W1=fun r=>(w.alloc (.deferred (some []))).alloc (.loop r):=⟨_,rfl⟩;have hpt': ∀t∈ps.toList,t<C.nt:=fun t ht=>by
  have:=List.all_eq_true.1 hpt t ht;simpa [Nat.blt_eq]using this
 refine wpIn_rangeFunc ?_;intro fn hfnF;obtain⟨rec,hrec⟩: ∃rec:LoopState→Option Code→Loop,rec=fun st pe=>{state:=st,pending:=pe,fn,tmps:=a.tmps,params:=ps,assign,body,defers:=n}:=⟨_,rfl⟩;obtain⟨recAt,hrecAt⟩: ∃recAt:Nat→Loop,recAt=fun k=>if k≤stop2 then rec .ready none else rec .done (Qjo jump):=⟨_,rfl⟩;have hr0:recAt 0=rec .ready none:=by rw [hrecAt];simp
 have hsz1:(W1 (rec .ready none)).heap.size=n+2:=by rw [hW1,hn];simp
 have hL1:(W1 (rec .ready none)).heap[n+1]? =some (.loop (rec .ready none)):=by
  rw [hW1,hn];have:=World.alloc_heap_new (w.alloc (.deferred (some []))) (.loop (rec .ready none));rwa [World.size_alloc]at this
 have hK1:(W1 (rec .ready none)).heap[n]? =some (.deferred (some [])):=by
  rw [hW1,hn];exact(Below.heap_alloc _ _ _ (by simp)).trans (World.alloc_heap_new w _)
 have hb1:Below n w (W1 (rec .ready none)):=by rw [hW1,hn];exact((Below.refl _ w).alloc (Nat.le_refl _) _).alloc (by simp) _
 generalize hWW:W1 (rec .ready none)=W0 at hsz1 hL1 hK1 hb1;have hF0:C.F≤n:=by rw [hn];exact hlaid.2.1
 refine⟨n+1,[{target:= .collected n,args:= #[]}],W0,{target:= .fn (.func f) ub.toArray,args:= #[.func (.yield (n+1)) #[] #[]]},W0,f,
  #[.func (.yield (n+1)) #[] #[]]++ub.toArray,W0,?_,?_,fun _ _=>trivial,?_,fun h=>by simp [FW,Fence.wide]at h,?_⟩
 ·rw [←hWW,hW1,hrec,hn];exact run_enterLoop_outer _ _ _ _ _
 ·simp only [resolve,hgu];simp [go_sem]
 ·have hn': ¬fnf.name= "runtime.NumGoroutine" :=by simpa using hfn
  have hbn: ¬fnf.body=none:=by intro e;rw [e]at hfb;cases hfb
  simp [invoke,callFunc,hff,hn',hbn]
 ·-- the iterator
  have hkp0:Keeps im w W0:=Keeps.of_below (hn▸hb1) h.imc;have hXF2: ∀g,(C.X g∨C.base≤g)→C.F≤g:=fun g x=>x.elim (C.hXF g) fun y=>Nat.le_trans C.hF y;refine Qhj ((hs (n+1) stop2 W0 im ub C.F (by omega) (hlaid.1.keep fun k hk=>hb1.block k (by omega)) (fun k=>C.X k∨C.base≤k) hXF2
   (fun own imc o W=> ∃imb,GoingN C n w im a.tmps vs (O o.length) (recAt o.length) own imc W imb∧o.length≤outs2.length∧o.length≤stop2+1)
   (fun o s ⟨imb,G,x,y⟩=>⟨imb,G.step' hn (by omega) s,x,y⟩) (fun o D hD hd ⟨imb,G,x,y⟩=>⟨imb,G.unmark hT hn (by omega) (by omega) hd,x,y⟩) ?_ (r1.mono (fun g j x=>hkp0.cell g j x) fun _ _ x=>x)
   (fun g j x=>by rw [hkp0.cell g j x];exact h.imc g j x) ?_).mono ?_)
  ·-- one round
   rintro ρc imc W o args us hstop houts ⟨imb,G,hlo,hls⟩ hownlt hcells hrep hsz;subst hn;have hrk:recAt o.length=rec .ready none:=by rw [hrecAt];simp [hstop]
   have hl:W.heap[w.heap.size+1]? =some (.loop (rec .ready none)):=by rw [←hrk];exact G.recd
   have hlen:ps.toList.length=args.length:=by have:=hps _ _ houts;simp;omega
   have hy:=run_yield (P:=C.P) (args:=us.toArray) hl (by rw [hrec];have:=hrep.length;have:=hps _ _ houts;simp;omega);refine⟨fn,_,assign,body,by rw [hrec]at hy;rw [hy],?_⟩;have hlt:w.heap.size+1<W.heap.size:=(Array.getElem?_eq_some_iff.1 hl).1;have raw0:Raw C.nt (St.ofG vs [] [] none) a.tmps W (fun _=>none) (fun g j=>imb g j∨imc g j):=by
    refine G.raw.grow (im':=fun g j=>imb g j∨imc g j) (fun _ _ x=> .inl x) ?_;rintro g j (x|x)
    ·exact .inl x
    ·exact .inr ⟨hcells g j x,Qb6 g⟩
   have raw0':Raw C.nt (St.ofG vs [] (O o.length) (some (l,stop,outs))) a.tmps W (fun _=>none) (fun g j=>imb g j∨imc g j):=⟨raw0.nt,raw0.imc,raw0.var,raw0.rho,raw0.box,raw0.inj⟩;have hlayW:Laid C.P C.F W:=hlaid.1.keep fun k hk=>G.lw.block k (by omega) fun x=>by have:=hXF2 k x;omega
   have hgh:C.J (fun g=>g=w.heap.size∨g=w.heap.size+1∨Own (fun _=>none:Rho) g∨Own ρc g) (fun g j=>imb g j∨imc g j) (O o.length) W:=by
    have e:(fun g=>g=w.heap.size∨g=w.heap.size+1∨Own (fun _=>none:Rho) g∨Own ρc g)=fun g=>g=w.heap.size∨g=w.heap.size+1∨Own ρc g:=by rw [←Qcw,Qcz]
    rw [e];exact G.ghost
   have hpn: ∀g,Own (fun _=>none:Rho) g→C.base≤g:=fun g x=>absurd x (Qb6 g);obtain⟨CA,hCA⟩: ∃CA:Ctx,CA=Qny C w.heap.size ρc W (fun g j=>imb g j∨imc g j) (fun _=>none) (by omega) hlayW (by omega) (by omega) hpn hownlt:=⟨_,rfl⟩;have rel1:=raw0'.relN (hF:=by omega) (hlay:=hlayW) (hn:=by omega) (hB:=by omega) (hρ:=hpn) (hc:=hownlt) hgh hyl.symm;rw [←hCA]at rel1;have hrep1:RepL W (fun g j=>imb g j∨imc g j) args us:=hrep.mono (fun _ _ _=>rfl) (fun g j x=>Or.inr x);have rel2:=Rel'.pvars (ps:=ps.toList) hlen hrep1 (by rw [hCA];exact hpt') rel1;have eP:CA.P=C.P:=by rw [hCA];rfl
   have hbd:=hbody o.length args houts hstop CA eP (by rw [hCA];rfl) ⟨some (w.heap.size+1),fun e=>by rw [hCA]at e;simp [Qny,hyl]at e⟩ _ _ ⟨_,_,rel2⟩;have htm:(ps.zip us.toArray).foldl (fun tmps x=>tmps.setIfInBounds x.1 x.2) a.tmps=(ps.toList.zip us).foldl (fun t p=>t.setIfInBounds p.1 p.2) a.tmps:=by
    rw [←Array.foldl_toList,Array.toList_zip]
   refine roundIn_of_wpIn (F:=Fence.wide) trivial ?_;refine wpIn_mono (Q:=fun e a' w'=> ∃st',vthen (fun s=>Vwp C.P C.nt body (Qnz O (some (l,stop,outs)) stop2 jump o.length) s) (fun _ _=>False) e st'∧Rel CA st' a' w') (by have hb2:=hbd;rw [←htm]at hb2;exact hb2) ?_;rintro e1 a1 W1 ⟨s1,hbd2,hr1⟩;have hen:e1= .normal:=by cases e1<;>first|rfl|exact hbd2.elim
   subst hen
   replace hbd2:Vwp C.P C.nt body (Qnz O (some (l,stop,outs)) stop2 jump o.length) s1:=hbd2
   obtain⟨ρ1,im1,h1⟩:=hr1;have hlentA:Lent (fun k=>((C.X k∨C.base≤k)∧ ¬(k=w.heap.size∨k=w.heap.size+1∨Own ρc k))∨Own (fun _=>none:Rho) k) W.heap.size W W1:=by have:=h1.root.below;rw [hCA]at this;exact this
   have hkeepA:Keeps (fun g j=>imb g j∨imc g j) W W1:=by have:=h1.root.keep;rw [hCA]at this;exact this
   have hszA:=hlentA.size;have hownA: ∀g,Own ρ1 g→W.heap.size≤g:=fun g x=>by
    have:=(h1.ownB x).1;rw [hCA]at this;exact this.elim id fun y=>absurd y (Qb6 g)
   have himA: ∀g j,imb g j∨imc g j→im1 g j:=by have:=h1.root.im0;rw [hCA]at this;exact this
   have himA1: ∀g j,im1 g j→(imb g j∨imc g j)∨W.heap.size≤g:=fun g j x=>by
    have:=h1.root.im1 g j x;rw [hCA]at this;rcases this with y|y|y
    ·exact .inl y
    ·exact .inr y
    ·exact absurd y (Qb6 g)
   have hghA:C.J (fun g=>g=w.heap.size∨g=w.heap.size+1∨Own ρ1 g∨Own ρc g) im1 s1.out W1:=by have:=h1.root.ghost;rw [hCA]at this;exact this
   have hylA:s1.yl=C.yl:=by have:=h1.root.yl;rw [hCA]at this;exact this
   have hntA:CA.nt=C.nt:=by rw [hCA];rfl
   have hrawA:Raw C.nt s1 a1.tmps W1 ρ1 im1:=by have:=h1.raw;rw [hntA]at this;exact this
   have hd1:a1.defers=[]:=h1.dfr.1 (by rw [hCA];exact⟨by simp [Qny,hyl],rfl⟩);clear h1 hbd rel2 rel1;have hlA:W1.heap[w.heap.size+1]? =some (.loop (rec .ready none)):=(hlentA.block _ hlt (by rintro(⟨_,x⟩|x);exact x (.inr (.inl rfl));exact Qb6 _ x)).trans hl;have hmA:W1.heap[w.heap.size]? =some (.deferred (some [])):=(hlentA.block _ (by omega) (by rintro(⟨_,x⟩|x);exact x (.inl rfl);exact Qb6 _ x)).trans G.mark;change∃w₂,_∧_;refine⟨_,run_beginRound hlA (by rw [hrec]),?_⟩;obtain⟨W1',hW1'⟩: ∃W1',W1'=W1.putObj (w.heap.size+1) (.loop {rec .ready none with state:= .busy}):=⟨_,rfl⟩;have hsz1':W1'.heap.size=W1.heap.size:=by rw [hW1'];simp
   have hl1:W1'.heap[w.heap.size+1]? =some (.loop {rec .ready none with state:= .busy}):=by rw [hW1'];exact World.putObj_heap_same (by omega)
   have hoth1: ∀k,k≠w.heap.size+1→W1'.heap[k]? =W1.heap[k]? :=fun k hk=>by rw [hW1'];exact Qa9 W1 _ _ k hk
   have hkeep1: ∀im',Keeps im' W1 W1':=fun im'=>by rw [hW1'];exact Qcc hlA
   have hgh1:C.J (fun g=>g=w.heap.size∨g=w.heap.size+1∨Own ρ1 g∨Own ρc g) im1 s1.out W1':=by rw [hW1'];exact Qub hlA hghA
   rw [←hW1'];have raw1:Raw C.nt s1 a1.tmps W1' ρ1 im1:=by
    rw [hW1'];exact hrawA.putLoop hlA
   have hlay1:Laid C.P C.F W1':=hlayW.keep fun k hk=>by
    rw [hoth1 k (by omega)];exact hlentA.block k (by omega) fun x=>by
     rcases x with⟨x,_⟩|x
     ·have:=hXF2 k x;omega
     ·exact Qb6 _ x
   have ha1:a1={tmps:=a1.tmps,defers:=[]}:=by cases a1;simp_all
   have hpB: ∀g,Own ρ1 g→C.base≤g:=fun g x=>by have:=hownA g x;omega
   have hcB: ∀g,Own ρc g→g<W1'.heap.size:=fun g x=>by have:=hownlt g x;omega
   have rel3:=raw1.relN (hF:=by omega) (hlay:=hlay1) (hn:=by omega) (hB:=by omega) (hρ:=hpB) (hc:=hcB) hgh1 hylA;obtain⟨CB,hCB⟩: ∃CB:Ctx,CB=Qny C w.heap.size ρc W1' im1 ρ1 (by omega) hlay1 (by omega) (by omega) hpB hcB:=⟨_,rfl⟩;rw [←hCB]at rel3;have hbd3:=hbd2 CB (by rw [hCB];rfl) (by rw [hCB];rfl) ⟨some (w.heap.size+1),fun e=>by rw [hCB]at e;simp [Qny,hyl]at e⟩ _ _ ⟨ρ1,_,rel3⟩;rw [←ha1]at hbd3;refine wpIn_mono (Q:=fun e a' w'=> ∃st',Qnz O (some (l,stop,outs)) stop2 jump o.length e st'∧Rel CB st' a' w') hbd3 ?_;rintro e a3 W3 ⟨s,hq,hr⟩;have fin: ∀jp:Option Code,Le s (St.ofG [] [] (O (o.length+1)) (some (l,stop,outs)))→jp.isNone=decide (o.length<stop2)→rec (if jp.isNone then .ready else .done) jp=recAt (o.length+1)→
     ∃v w',(Instr.endRound (w.heap.size+1) jp).run C.P W3= .ok v w'∧(Ending.returned v= .returned (.bool (decide (o.length<stop2)))∧Turn (fun k=>C.X k∨C.base≤k) W0.heap.size ρc imc W w'∧
      ∃imb,GoingN C w.heap.size w im a.tmps vs (O (o++[args]).length) (recAt (o++[args]).length) (Own ρc) imc w' imb∧(o++[args]).length≤outs2.length∧(o++[args]).length≤stop2+1):=by
    intro jp hle hjn hrec1;obtain⟨ρ3,im3,h3⟩:=hle _ _ _ hr;have hnone:ρ3=fun _=>none:=by
     funext b;exact(h3.rho b).2 rfl
    subst hnone;have hlent3:Lent (fun k=>((C.X k∨C.base≤k)∧ ¬(k=w.heap.size∨k=w.heap.size+1∨Own ρc k))∨Own ρ1 k) W1'.heap.size W1' W3:=by have:=h3.root.below;rw [hCB]at this;exact this
    have hkeep3:Keeps im1 W1' W3:=by have:=h3.root.keep;rw [hCB]at this;exact this
    have hsz3:W1'.heap.size≤W3.heap.size:=hlent3.size;have hno1: ∀k,k<W.heap.size→(k=w.heap.size∨k=w.heap.size+1∨Own ρc k)→ ¬(((C.X k∨C.base≤k)∧ ¬(k=w.heap.size∨k=w.heap.size+1∨Own ρc k))∨Own ρ1 k):=by
     rintro k hk x (⟨_,y⟩|y)
     ·exact y x
     ·have:=hownA k y;omega
    have hl3:W3.heap[w.heap.size+1]? =some (.loop {rec .ready none with state:= .busy}):=(hlent3.block _ (by omega) (hno1 _ hlt (.inr (.inl rfl)))).trans hl1;have hm3:W3.heap[w.heap.size]? =some (.deferred (some [])):=(hlent3.block _ (by omega) (hno1 _ (by omega) (.inl rfl))).trans ((hoth1 _ (by omega)).trans hmA);have hend:=run_endRound (P:=C.P) jp hl3;obtain⟨W4,hW4⟩: ∃W4,W4=W3.putObj (w.heap.size+1) (.loop (recAt (o.length+1))):=⟨_,rfl⟩;have hre:({({rec .ready none with state:= .busy}:Loop)with state:=if jp.isNone then .ready else .done,pending:=jp}:Loop)=recAt (o.length+1):=by rw [←hrec1,hrec]
    rw [hre,←hW4]at hend;have hoth4: ∀k,k≠w.heap.size+1→W4.heap[k]? =W3.heap[k]? :=fun k hk=>by rw [hW4];exact Qa9 W3 _ _ k hk
    have hkeep4: ∀im',Keeps im' W3 W4:=fun im'=>by rw [hW4];exact Qcc hl3
    have hsz4:W4.heap.size=W3.heap.size:=by rw [hW4];simp
    have hkW3:Keeps (fun g j=>imb g j∨imc g j) W W3:=(hkeepA.trans (hkeep1 im1) himA).trans hkeep3 himA;have hkW: ∀im',(∀g j,im' g j→imb g j∨imc g j)→Keeps im' W W4:=fun im' hi=>((Keeps.refl im' W).trans hkW3 hi).trans (hkeep4 im') fun _ _ x=>x;have him3: ∀g j,im1 g j→im3 g j:=by have:=h3.root.im0;rw [hCB]at this;exact this
    have him31: ∀g j,im3 g j→im1 g j∨W.heap.size≤g:=fun g j x=>by
     have:=h3.root.im1 g j x;rw [hCB]at this;rcases this with y|y|y
     ·exact .inl y
     ·have y':W1'.heap.size≤g:=y;exact .inr (by omega)
     ·exact .inr (hownA g y)
    have hgh3:C.J (fun g=>g=w.heap.size∨g=w.heap.size+1∨Own (fun _=>none:Rho) g∨Own ρc g) im3 (O (o.length+1)) W3:=by have:=h3.root.ghost;rw [hCB]at this;exact this
    have hgh4:=Qub (r':=recAt (o.length+1)) hl3 hgh3;have e4:(fun g=>g=w.heap.size∨g=w.heap.size+1∨Own (fun _=>none:Rho) g∨Own ρc g)=fun g=>g=w.heap.size∨g=w.heap.size+1∨Own ρc g:=by rw [←Qcw,Qcz]
    rw [e4,←hW4]at hgh4;have hraw3:Raw C.nt (St.ofG [] [] (O (o.length+1)) (some (l,stop,outs))) a3.tmps W3 (fun _=>none) im3:=by have:=h3.raw;rw [show CB.nt=C.nt by rw [hCB];rfl]at this;exact this
    have hlenk:(o++[args]).length=o.length+1:=by simp
    have holt:o.length<outs2.length:=(List.getElem?_eq_some_iff.1 houts).1;have hstay: ∀k,k<W.heap.size→k≠w.heap.size+1→(Own ρc k∨ ¬(C.X k∨C.base≤k))→W4.heap[k]? =W.heap[k]? :=fun k hk hne hx=>by
     refine(((hoth4 k hne).trans (hlent3.block k (by omega) ?_)).trans (hoth1 k hne)).trans (hlentA.block k hk ?_)
     ·rintro(⟨y,z⟩|y)
      ·rcases hx with q|q
       ·exact z (.inr (.inr q))
       ·exact q y
      ·have:=hownA k y;omega
     ·rintro(⟨y,z⟩|y)
      ·rcases hx with q|q
       ·exact z (.inr (.inr q))
       ·exact q y
      ·exact Qb6 _ y
    have hA:Lent (fun k=>C.X k∨C.base≤k) W.heap.size W W4:=
     ⟨by have e:=hlent3.os;rw [hW1']at e;rw [hW4];exact Eq.trans e hlentA.os,by have e:=hlent3.tape;rw [hW1']at e;rw [hW4];exact Eq.trans e hlentA.tape,by have e:=hlent3.output;rw [hW1']at e;rw [hW4];exact Eq.trans e hlentA.output,by omega,
      fun k hk hx=>hstay k hk (fun e=>hx (.inr (by omega))) (.inr hx)⟩
    refine⟨_,W4,hend,by rw [hjn],⟨hA.mono (by omega) fun k hk x=>x,hkW imc (fun _ _ x=> .inr x),fun g hg=>hstay g (hownlt g hg) (by have:=G.apart g hg;omega) (.inl hg)⟩,im3,?_,by omega,by omega⟩;rw [hlenk];have himb: ∀g j,imb g j∨imc g j→im3 g j:=fun g j x=>him3 g j (himA g j x);have hbk: ∀g j,im3 g j→(imb g j∨imc g j)∨W.heap.size≤g:=fun g j x=>by
     rcases him31 g j x with y|y
     ·exact himA1 g j y
     ·exact .inr y
    have eim:(fun g j=>im3 g j∨imc g j)=im3:=by
     funext g j;exact propext ⟨fun x=>x.elim id fun y=>himb g j (.inr y),.inl⟩
    refine⟨G.lw.trans (hA.mono G.lw.size fun k hk x=>x),G.kw.trans (hkW imb fun _ _ x=> .inl x) G.imm,fun g j x=>himb g j (.inl (G.imm g j x)),?_,G.imcn,?_,?_,G.apart,?_,?_,?_⟩
    ·intro g j x;rcases hbk g j x with(y|y)|y
     ·exact G.im1 g j y
     ·exact G.imcn g j y
     ·exact .inr (by omega)
    ·rw [hW4];refine Raw.putLoop ⟨G.raw.nt,hraw3.imc,?_,fun b=>⟨fun _=>rfl,fun _=>rfl⟩,fun b x B hx=>(by cases hx),fun b b' g B B' hx=>(by cases hx)⟩ hl3;intro t v hvt;exact(G.raw.var t v hvt).mono ((Keeps.refl imb W).trans hkW3 fun _ _ x=> .inl x) (fun g j x=>himb g j (.inl x)) fun _ _ x=>x
    ·intro g j x;rcases hbk g j x with(y|y)|y
     ·exact G.out g j y
     ·exact .inl y
     ·exact .inr fun z=>by have:=hownlt g z;omega
    ·rw [eim];exact hgh4
    ·rw [hW4];exact World.putObj_heap_same (Array.getElem?_eq_some_iff.1 hl3).1
    ·exact(hoth4 _ (by omega)).trans hm3
   cases e with
   |normal=>
    obtain⟨hk,hle⟩:=hq;exact fin none hle (by simp [hk]) (by rw [hrecAt];exact(if_pos (by omega)).symm)
   |ret=>
    obtain⟨hk,hj,hle⟩:=hq;exact fin (some .ret) hle (by simp;omega) (by rw [hrecAt,hj];exact(if_neg (by omega)).symm)
   |exit id=>
    obtain⟨hk,hj,hle⟩:=hq;exact fin (some (.exit id)) hle (by simp;omega) (by rw [hrecAt,hj];exact(if_neg (by omega)).symm)
   |_=>exact hq.elim
  ·-- before the first round
   have raw0:=(h.raw.world hkp0 fun g hg=>hb1.block g (by rw [hn];exact(h.ownB hg).2)).ren (vs':=vs) (bs':=[]) (o':=[]) (y':=none) (θ:=[]) rfl rfl hv trivial;refine⟨im,?_,by simp,by simp⟩;simp only [List.length_nil];rw [hr0];subst hn;refine⟨.of_below hb1,hkp0,fun _ _ x=>x,fun _ _ x=> .inl x,fun _ _ x=> .inl x,raw0,fun _ _ x=> .inl x,fun _ x=>x.elim,?_,hL1,hK1⟩;have hgh:=C.hJ (ρ:=ρ) (ρ':=plus (fun _=>none) (fun _=>none) w.heap.size) (im:=im) (w:=w) (im':=fun g j=>im g j∨im g j) (w':=W0) (O 0) ⟨.of_below hb1,hkp0,fun g x=>by
    rw [Qcz]at x;rcases x with x|x|x
    ·exact .inr (by omega)
    ·exact .inr (by omega)
    ·exact absurd x (Qb6 g),fun _ _ x=> .inl x,fun _ _ x=> .inl (x.elim id id)⟩ h.root.ghost
   rw [Qcz]at hgh;have e:(fun g=>g=w.heap.size∨g=w.heap.size+1∨Own (fun _=>none:Rho) g)=fun g=>g=w.heap.size∨g=w.heap.size+1∨False:=by
    funext g;rw [show Own (fun _=>none:Rho) g=False from propext ⟨Qb6 g,False.elim⟩]
   rw [e]at hgh;exact hgh
  ·-- behind the iterator
   rintro e W2 ⟨v,own,im',rfl,⟨imb,G,hlo,hls⟩,him'⟩;have hK:(outs2.take (stop2+1)).length=min outs2.length (stop2+1):=by simp [Nat.min_comm]
   rw [hK]at G;subst hn;have hl:=G.recd;have hend:=run_endLoop (P:=C.P) hl (by rw [hrecAt];simp only;split<;>(rw [hrec];simp));obtain⟨W5,hW5⟩: ∃W5,W5=W2.putObj (w.heap.size+1) (.loop {recAt (min outs2.length (stop2+1))with state:= .exhausted}):=⟨_,rfl⟩;rw [←hW5]at hend;refine⟨_,W5,hend,?_⟩;have hkp: ∀im',Keeps im' W2 W5:=fun im'=>by rw [hW5];exact Qcc hl
   have hsz5:W5.heap.size=W2.heap.size:=by rw [hW5];simp
   have hoth: ∀k,k≠w.heap.size+1→W5.heap[k]? =W2.heap[k]? :=fun k hk=>by rw [hW5];exact Qa9 W2 _ _ k hk
   have hlt:w.heap.size+1<W2.heap.size:=(Array.getElem?_eq_some_iff.1 hl).1;have rawF:=G.raw.putLoop (r':={recAt (min outs2.length (stop2+1))with state:= .exhausted}) hl;rw [←hW5]at rawF;have hlW:Lent (fun k=>C.X k∨C.base≤k) w.heap.size w W5:=⟨by rw [hW5];exact G.lw.os,by rw [hW5];exact G.lw.tape,by rw [hW5];exact G.lw.output,by rw [hsz5];exact G.lw.size,fun k hk hx=>(hoth k (by omega)).trans (G.lw.block k hk hx)⟩;have hkW:Keeps im w W5:=G.kw.trans (hkp imb) G.imm;have hgh:C.J (Own (fun _=>none:Rho)) (fun g j=>imb g j∨im' g j) (O (min outs2.length (stop2+1))) W5:=by
    have g1:=C.hJ (ρ:=plus (fun _=>none) (Znv own) w.heap.size) (ρ':=fun _=>none) (im:=fun g j=>imb g j∨im' g j) (w:=W2) (im':=fun g j=>imb g j∨im' g j) (w':=W5) (O (min outs2.length (stop2+1)))
     ⟨⟨by rw [hW5];rfl,by rw [hW5];rfl,by rw [hW5];rfl,by omega,fun k _ hx=>hoth k fun e=>hx (by rw [Qcz];exact .inr (.inl e))⟩,hkp _,fun g x=>absurd x (Qb6 g),fun _ _ x=>x,fun _ _ x=> .inl x⟩
    rw [Qcz,Zd0]at g1;exact g1 G.ghost
   have rawG:=rawF.grow (im':=fun g j=>imb g j∨im' g j) (fun _ _ x=> .inl x) (by
    rintro g j (x|x)
    ·exact .inl x
    ·exact .inr ⟨by rw [(hkp im').cell g j x];exact him' g j x,Qb6 g⟩)
   have hpend:(recAt (min outs2.length (stop2+1))).pending=if outs2.length≤stop2 then none else Qjo jump:=by
    rw [hrecAt];simp only;by_cases hc:outs2.length≤stop2
    ·rw [if_pos (by omega),if_pos hc,hrec]
    ·rw [if_neg (by omega),if_neg hc,hrec]
   have hrel:Rel C (St.ofG vs [] (O (min outs2.length (stop2+1))) (some (l,stop,outs))) {a with defers:={target:= .collected w.heap.size,args:= #[]}::a.defers} W5:=by
    refine⟨fun _=>none,fun g j=>imb g j∨im' g j,⟨h.root.below.trans (hlW.mono h.root.below.size fun k hk x=>x.elim id fun y=>by omega),h.root.keep.trans hkW h.root.im0,fun g j x=> .inl (G.imm g j (h.root.im0 g j x)),?_,fun b x x' _ _ hx=>(by cases hx),hgh,hyl.symm⟩,G.raw.nt,?_,rawG.imc,rawG.var,fun b=>⟨fun _=>rfl,fun _=>rfl⟩,fun b x B hx=>(by cases hx),fun b b' g B B' hx=>(by cases hx)⟩
    ·have key: ∀g j,(im g j∨C.base≤g)→C.im0 g j∨C.own g:=fun g j x=>x.elim (h.root.im1 g j) fun y=> .inr (.inl y);rintro g j (x|x)
     ·exact key g j (G.im1 g j x)
     ·exact key g j (G.imcn g j x)
    ·obtain⟨_,Ds,hd1,hd2,hd3⟩:=h.dfr;refine⟨fun x=>absurd x.2 (by rw [hrn];decide),w.heap.size::Ds,by simp [hd1],?_,?_⟩
     ·refine List.nodup_cons.2 ⟨fun hm=> ?_,hd2⟩;have:=(Array.getElem?_eq_some_iff.1 (hd3 _ hm).2).1;omega
     ·intro D hD;rcases List.mem_cons.1 hD with rfl|hD
      ·exact⟨hBn,(hoth _ (by omega)).trans G.mark⟩
      ·exact⟨(hd3 D hD).1,hkW.oth D _ (hd3 D hD).2 rfl⟩
   rw [hpend];by_cases hc:outs2.length≤stop2
   ·rw [if_pos hc]at hQ ⊢;exact⟨_,hQ,hrel⟩
   ·rw [if_neg hc]at hQ ⊢;have hj:=hjump (by omega);cases jump with
    |ret=>exact wpIn_ret ⟨_,hQ,hrel⟩
    |exit id=>exact wpIn_exit ⟨_,hQ,hrel⟩
    |_=>cases hj
theorem Qk8 {P:Program} {fn:Func} {K:World→Prop} {R:Ending→World→Prop} {B:Nat} {tmps:Array Value} {rd:Option Nat} (hR: ∀v w,K w→R (.returned v) w) (hU: ∀w D,B≤D→w.heap[D]? =some (.deferred (some []))→K w→K (w.putObj D (.deferred none))) (hrs:fn.results.toList=[]):
  ∀(Ds:List Nat) (w:World),K w→Ds.Nodup→(∀D∈Ds,B≤D∧w.heap[D]? =some (.deferred (some [])))→LeavesInM (FW rd) 0 P fn tmps R (Ds.map fun D=>{target:= .collected D,args:= #[]}) .returning w
 | [],w,h,_,_=>⟨_,Qfy (vals:=[]) (by rw [hrs];simp),hR _ _ h⟩
 |D::Ds,w,h,hn,hD=>by
  refine⟨by simp,.inl ⟨_,_,rfl,run_takeDeferred (hD D (by simp)).2,Qk8 hR hU hrs Ds _ (hU w D (hD D (by simp)).1 (hD D (by simp)).2 h) (List.nodup_cons.1 hn).2 ?_⟩⟩;intro E hE;refine⟨(hD E (by simp [hE])).1,?_⟩;rw [Qa9 _ _ _ _ (by rintro rfl;exact(List.nodup_cons.1 hn).1 hE)];exact(hD E (by simp [hE])).2
theorem Q3l {P:Program} {f:FuncId} {fn:Func} {c:Code} {cap:List PV} {outs:List (List PV)} (nt:Nat) (hf:P.funcs[f]? =some fn) (hb:fn.body=some c) (hc:callable P f=true)
  (hnt:fn.ntmps=nt) (hrs:fn.results.toList=[]) (hn:Nat.ble (cap.length+1) nt=true)
  (h: ∀l stop,VwpN P nt c (Qh5 outs stop) (St.ofG (Qcf 0 (.yld l stop::cap)) [] [] (some (l,stop,outs)))):Qf3 P f cap outs:=by
 subst hnt;refine⟨hc,fun l stop w im us F hF hlay X hXF J hJ hU hY hr hi hj=> ?_⟩;have hJ0:Own (fun _=>none:Rho)=fun _=>False:=by funext g;exact propext ⟨Qb6 g,False.elim⟩
 let C:Ctx:={P:=P,w0:=w,F:=F,hF:=hF,lay:=hlay,im0:=im,nt:=fn.ntmps,rnd:=false,ρ0:=fun _=>none,X:=X,hX:=fun g x=>absurd x (Qb6 g),hXF:=hXF,J:=J,hJ:=hJ,yl:=some (l,stop,outs),hY:=by intro l' stop' outs' e;cases e;exact hY}
 have hrL:LRL w im (fun _=>none) (.yld l stop::cap) (Value.func (.yield l) #[] #[]::us):= .cons _ _ _ _ (.ext _ _ (.yld l stop)) hr.toLRL;have h0:Rel C (St.ofG (Qcf 0 (.yld l stop::cap)) [] [] (some (l,stop,outs))) {tmps:=(Value.func (.yield l) #[] #[]::us).toArray++Array.replicate (fn.ntmps-(Value.func (.yield l) #[] #[]::us).toArray.size) undef,defers:=[]} w:=by
  have hlen:=hrL.length;have hn':=Nat.le_of_ble_eq_true hn;refine⟨fun _=>none,im,⟨.refl _ _ _,Keeps.refl _ _,fun _ _ x=>x,fun _ _ x=> .inl x,fun b x x' _ h0 _=>(by cases h0),(by show J _ _ _ _;rw [hJ0];exact hj),rfl⟩,?_,⟨fun _=>rfl,[],rfl,by simp,by simp⟩,hi,?_,fun b=>by simp [St.ofG,lkp],fun b x B hx=>(by cases hx),fun b b' g B B' hx=>(by cases hx)⟩
  ·simp only [List.length_cons]at hlen;simp only [Array.size_append,List.size_toArray,Array.size_replicate,List.length_cons];show us.length+1+(fn.ntmps-(us.length+1))=fn.ntmps;omega
  ·intro t v hv;obtain⟨_,h2⟩:=Qea _ 0 t v hv;simp only [Nat.sub_zero]at h2;obtain⟨u,hu,hrep⟩:=hrL.get t v h2;have ht:t<(Value.func (.yield l) #[] #[]::us).length:=(List.getElem?_eq_some_iff.1 hu).1;have:((Value.func (.yield l) #[] #[]::us).toArray++Array.replicate (fn.ntmps-(Value.func (.yield l) #[] #[]::us).toArray.size) undef)[t]? =some u:=by
    rw [Array.getElem?_append_left (by simpa using ht)];simpa using hu
   simp only [Array.getD_eq_getD_getElem?,this,Option.getD_some];exact hrep
 have harr:(#[Value.func (.yield l) #[] #[]]++us.toArray)=(Value.func (.yield l) #[] #[]::us).toArray:=by apply Array.ext';simp
 rw [harr];refine(callsIn_wide (n:=0)).1 (callsIn_of_wp_marks (F:=FW none) hf hb trivial (wpIn_mono (h l stop C rfl rfl rfl (fun o D hD hd x=>hU o D hD hd x) _ _ h0) ?_));rintro e a' w' ⟨s,hq,ρ',im',h'⟩;obtain⟨_,Ds,hd,hnd,hD⟩:=h'.dfr;have hgh:J (Own ρ') im' s.out w':=h'.root.ghost;have key:Qh5 outs stop .ret s→LeavesInM (FW none) 0 P fn a'.tmps (fun e w'=> ∃v own im',e= .returned v∧J own im' (outs.take (stop+1)) w'∧ ∀g j,im' g j→ ∃u,w'.cell? ⟨g,j,none⟩=some u) a'.defers .returning w':=by
  intro hq;simp only [Qh5]at hq;rw [hd];exact Qk8 (K:=fun w2=>J (Own ρ') im' (outs.take (stop+1)) w2∧ ∀g j,im' g j→ ∃u,w2.cell? ⟨g,j,none⟩=some u) (B:=w.heap.size) (fun v w2 k=>⟨v,_,_,rfl,k.1,k.2⟩) (fun w2 D k1 k2 k3=>⟨hU _ D k1 k2 k3.1,fun g j x=>by
   obtain⟨u,hu⟩:=k3.2 g j x;exact⟨u,by rw [Qfz k2 hu];exact hu⟩⟩) hrs Ds w' ⟨by rw [←hq];exact hgh,h'.imc⟩ hnd hD
 cases e with
 |normal=>exact key hq
 |ret=>exact key hq
 |_=>exact hq.elim
theorem Zo9 (P:Program) (p:Nat×List (Nat×Nat)×List (Nat×Nat)) (tb:Tab) (id:Nat) (bx:Bx) (fo:Operand) (as0:Array Operand) (ts:Array TypeId) (f:FuncId) (first cap args:List PV):Qa6 P (p::tb) id (.call ⟨.value fo,as0,ts⟩) (.fn f first cap::args) bx=
  (match lkp (p::tb) id with
   |none=>M.bind (Qev first) (fun x=> .bind (Qgh args) fun y=> .bind (Qev cap) fun z=> .pure (.call f (x.1++y.1++z.1) (x.2++y.2++z.2))) bx
   |some t=>Qfn t.1 t.2 f (first++args++cap) bx):=by
 cases h:lkp (p::tb) id with
 |none=>rw [Zo6 (h:=h)]
 |some t=>obtain⟨θ,ν⟩:=t;rw [Zo7 (h:=h)]
theorem ble6:Nat.ble 1000000 1000000=true:=rfl
theorem Z1b:Nat.ble 1000000 1000001=true:=rfl
attribute [go_sem] Zo9 ble6 Z1b
theorem Z1c (P:Program) (t:TypeId) (x y:ByteArray):Qbp .eql t P (.str x) (.str y)=some (.bool (x.data.toList==y.data.toList)):=by
 rw [Zv6,←Go.ByteArray.toList_eq x,←Go.ByteArray.toList_eq y];rfl
theorem Z1d (P:Program) (t:TypeId) (x y:ByteArray):Qbp .neq t P (.str x) (.str y)=some (.bool !(x.data.toList==y.data.toList)):=by
 rw [Zv6,←Go.ByteArray.toList_eq x,←Go.ByteArray.toList_eq y];rfl
attribute [go_sem high] Z1c Z1d
def bnum (l:List UInt8):Nat:=l.foldl (fun n b=>n*256+b.toNat) 0
theorem Qly (l:List UInt8) (b:UInt8):bnum (l++[b])=bnum l*256+b.toNat:=by simp [bnum]
theorem Que: ∀(n:Nat) (l:List UInt8),l.length=n→bnum l<256^n
 |0,l,h=>by obtain rfl:=List.length_eq_zero_iff.1 h;simp [bnum]
 |n+1,l,h=>by
  have hne:l≠ []:=by intro e;rw [e]at h;simp at h
  have e:=List.dropLast_concat_getLast hne;have ih:=Que n l.dropLast (by simp [h]);rw [←e,Qly,Nat.pow_succ];have:=(l.getLast hne).toNat_lt;omega
theorem Qlz (s:ByteArray):s.size=s.data.toList.length:=rfl
theorem Qrs (s:ByteArray) (k:Nat) (h:k<s.data.toList.length):s[k]? =some s.data.toList[k]:=by
 have h':k<s.size:=h;rw [getElem?_pos s k h'];rfl
end Go.Vl

namespace Go.Dg

/-! ### sums -/
/-- The sum of the first n values. -/
def sm (f:Nat→Int):Nat→Int
  |0=>0
  |n+1=>sm f n+f n
theorem Qcn {f g:Nat→Int}: ∀(n:Nat),(∀i,i<n→f i=g i)→sm f n=sm g n
  |0,_=>rfl
  |n+1,h=>by rw [sm,sm,Qcn n (fun i hi=>h i (Nat.lt_succ_of_lt hi)),h n (Nat.lt_succ_self n)]
theorem Q4k (f g:Nat→Int): ∀n,sm (fun i=>f i+g i) n=sm f n+sm g n
  |0=>rfl
  |n+1=>by simp only [sm,Q4k f g n];omega
theorem Qek (c:Int) (f:Nat→Int): ∀n,sm (fun i=>c*f i) n=c*sm f n
  |0=>by simp [sm]
  |n+1=>by simp only [sm,Qek c f n,Int.mul_add]
theorem Qlk (f:Nat→Int): ∀n,sm f (n+1)=f 0+sm (fun i=>f (i+1)) n
  |0=>by simp [sm]
  |n+1=>by rw [sm,Qlk f n,sm];omega
theorem Zpl (f:Nat→Int) {n m:Nat} (h:n≤m) (hz: ∀i,n≤i→i<m→f i=0):sm f m=sm f n:=by
  induction m with
  |zero=>
        obtain rfl:n=0:=by omega
        rfl
  |succ m ih=>
    rcases Nat.lt_or_eq_of_le h with h1|h1
    · rw [sm,ih (by omega) (fun i a b=>hz i a (by omega)),hz m (by omega) (by omega),Int.add_zero]
    · rw [h1]
theorem Zn4 (g:Nat→Nat→Int): ∀n,sm (fun j=>sm (fun i=>g i j) (j+1)) n=sm (fun i=>sm (fun k=>g i (i+k)) (n-i)) n
  |0=>rfl
  |n+1=>by
    rw [sm,Zn4 g n];have h1:sm (fun i=>sm (fun k=>g i (i+k)) (n+1-i)) n=sm (fun i=>sm (fun k=>g i (i+k)) (n-i)+g i n) n:=
      Qcn n fun i hi=>by
        have e:n+1-i=(n-i)+1:=by omega
        have e2:i+(n-i)=n:=by omega
        rw [e,sm,e2]
    have e3:n+1-n=1:=by omega
    rw [sm,sm,h1,Q4k,e3];simp only [sm,Nat.add_zero,Int.zero_add];omega
theorem Zpm {f g:Nat→Int}: ∀(n:Nat),(∀i,i<n→f i≤g i)→sm f n≤sm g n
  |0,_=>Int.le_refl 0
  |n+1,h=>Int.add_le_add (Zpm n fun i hi=>h i (Nat.lt_succ_of_lt hi)) (h n (Nat.lt_succ_self n))

/-! ### binomials -/
/-- The number of ways to choose k of n elements. -/
def bin:Nat→Nat→Nat
  |_,0=>1
  |0,_+1=>0
  |n+1,k+1=>bin n k+bin n (k+1)
theorem Qll (n:Nat):bin n 0=1:=by cases n<;>rfl
theorem Q4l: ∀{n k:Nat},n<k→bin n k=0
  |0,0,h=>absurd h (Nat.lt_irrefl 0)
  |0,_+1,_=>rfl
  |n+1,0,h=>absurd h (Nat.not_lt_zero _)
  |n+1,k+1,h=>by rw [bin,Q4l (by omega),Q4l (by omega)]
theorem Q4m: ∀{n k:Nat},k≤n→0<bin n k
  |_,0,_=>by rw [Qll];decide
  |0,k+1,h=>absurd h (by omega)
  |n+1,k+1,h=>by rw [bin];have:=Q4m (n:=n) (k:=k) (by omega);omega
theorem Qju: ∀(n k:Nat),bin n k≤2^n
  |0,0=>by decide
  |0,_+1=>by simp [bin]
  |n+1,0=>by rw [Qll];exact Nat.pow_pos (by decide)
  |n+1,k+1=>by rw [bin,Nat.pow_succ];have:=Qju n k;have:=Qju n (k+1);omega
theorem Qr8 (x:Int) (n:Nat):x^(n+1)=x*x^n:=by rw [Int.pow_succ,Int.mul_comm]
/-- The power of a sum. -/
theorem Qur (a b:Int): ∀n,sm (fun k=>(bin n k:Int)*(a^k*b^(n-k))) (n+1)=(a+b)^n
  |0=>by simp [sm,bin]
  |n+1=>by
    have ih:=Qur a b n;rw [Qlk];have h1:sm (fun k=>(bin (n+1) (k+1):Int)*(a^(k+1)*b^(n+1-(k+1)))) (n+1)
        =sm (fun k=>a*((bin n k:Int)*(a^k*b^(n-k)))+(bin n (k+1):Int)*(a^(k+1)*b^(n-k))) (n+1):=
      Qcn _ fun k _=>by
        have e:n+1-(k+1)=n-k:=by omega
        rw [e,bin,Int.natCast_add,Int.add_mul,Qr8];congr 1;rw [Int.mul_assoc,Int.mul_left_comm]
    rw [h1,Q4k,Qek,ih];have h2:sm (fun k=>(bin n (k+1):Int)*(a^(k+1)*b^(n-k))) (n+1)=sm (fun k=>b*((bin n (k+1):Int)*(a^(k+1)*b^(n-(k+1))))) n:=by
      rw [sm,Q4l (Nat.lt_succ_self n),Int.natCast_zero,Int.zero_mul,Int.add_zero];refine Qcn _ fun k hk=> ?_;have e:n-k=(n-(k+1))+1:=by omega
      rw [e,Qr8 b];simp only [Int.mul_comm,Int.mul_left_comm,Int.mul_assoc]
    have h3:=Qlk (fun k=>(bin n k:Int)*(a^k*b^(n-k))) n;rw [ih]at h3;rw [h2,Qek,Qll];rw [Qll]at h3;simp only [Int.pow_zero,Int.one_mul,Nat.sub_zero,Int.natCast_one]at h3 ⊢;rw [Qr8,Qr8,Int.add_mul,h3];simp only [Int.mul_add];omega

/-! ### polynomials by their values -/
/-- A polynomial at x/y,times y to the power of its degree. -/
def hev:List Int→Int→Int→Int
  | [],_,_=>0
  |c::r,x,y=>c*y^r.length+x*hev r x y
theorem Qr9: ∀(p:List Int) (x y:Int),hev p x y=sm (fun i=>p.getD i 0*(x^i*y^(p.length-1-i))) p.length
  | [],_,_=>rfl
  |c::r,x,y=>by
    rw [hev,List.length_cons,Qlk,Qr9 r x y,←Qek];congr 1
    · simp
    · refine Qcn _ fun i hi=> ?_;have e:r.length+1-1-(i+1)=r.length-1-i:=by omega
      rw [e,Qr8,List.getD_cons_succ];simp only [Int.mul_comm,Int.mul_left_comm,Int.mul_assoc]
/-- A list of sums of products,at two values. -/
theorem Zee (F:Nat→Int) (n:Nat) (x y:Int):hev ((List.range (n+1)).map F) x y=sm (fun j=>F j*(x^j*y^(n-j))) (n+1):=by
  rw [Qr9];simp only [List.length_map,List.length_range];refine Qcn _ fun j hj=> ?_;rw [List.getD_eq_getElem?_getD];simp [hj]

/-- The list whose value at x,y is the sum of f i x^i (c x+y)^(n-i). -/
def trans (f:List Int) (c:Int) (n:Nat):List Int:=(List.range (n+1)).map fun j=>sm (fun i=>f.getD i 0*(c^(j-i)*(bin (n-i) (j-i):Int))) (j+1)
theorem Qsa (f:List Int) (c:Int) (n:Nat):(trans f c n).length=n+1:=by simp [trans]
theorem Qxx (a b:Int): ∀n:Nat,(a*b)^n=a^n*b^n
  |0=>by simp
  |n+1=>by rw [Qr8,Qr8,Qr8,Qxx a b n];simp only [Int.mul_comm,Int.mul_left_comm,Int.mul_assoc]
theorem Zpn (c:Int) (f:Nat→Int) (n:Nat):sm (fun i=>f i*c) n=sm f n*c:=by
  rw [Int.mul_comm,←Qek];exact Qcn n fun i _=>Int.mul_comm _ _
theorem Q4n (f:List Int) (c:Int) (n:Nat) (x y:Int):hev (trans f c n) x y=sm (fun i=>f.getD i 0*(x^i*(c*x+y)^(n-i))) (n+1):=by
  rw [trans,Zee];have h1:sm (fun j=>sm (fun i=>f.getD i 0*(c^(j-i)*(bin (n-i) (j-i):Int))) (j+1)*(x^j*y^(n-j))) (n+1)
      =sm (fun j=>sm (fun i=>f.getD i 0*(c^(j-i)*(bin (n-i) (j-i):Int))*(x^j*y^(n-j))) (j+1)) (n+1):=
    Qcn _ fun j _=>(Zpn _ _ _).symm
  rw [h1,Zn4 (fun i j=>f.getD i 0*(c^(j-i)*(bin (n-i) (j-i):Int))*(x^j*y^(n-j)))];refine Qcn _ fun i hi=> ?_;have e:n+1-i=(n-i)+1:=by omega
  rw [←Qur (c*x) y (n-i),e,←Qek,←Qek];refine Qcn _ fun k hk=> ?_;have e1:i+k-i=k:=by omega
  have e2:n-(i+k)=n-i-k:=by omega
  rw [e1,e2,Qxx,Int.pow_add];simp only [Int.mul_comm,Int.mul_left_comm,Int.mul_assoc]
theorem Zpo {f:List Int} {n:Nat} (h:f.length≤n+1) (x s:Int):sm (fun i=>f.getD i 0*(x^i*s^(n-i))) (n+1)=s^(n+1-f.length)*hev f x s:=by
  rw [Zpl _ h (fun i h1 _=>by rw [List.getD_eq_getElem?_getD,List.getElem?_eq_none h1];simp),Qr9,←Qek];refine Qcn _ fun i hi=> ?_;have e:n-i=(n+1-f.length)+(f.length-1-i):=by omega
  rw [e,Int.pow_add];simp only [Int.mul_comm,Int.mul_left_comm,Int.mul_assoc]
theorem Qzw {f:List Int} {n:Nat} (h:f.length≤n+1) (c x y:Int):hev (trans f c n) x y=(c*x+y)^(n+1-f.length)*hev f x (c*x+y):=by
  rw [Q4n,Zpo h]
theorem Qzx {f:List Int} {n:Nat} (h:f.length=n+1) (c x y:Int):hev (trans f c n) x y=hev f x (c*x+y):=by
  rw [Qzw (by omega),h,Nat.sub_self,Int.pow_zero,Int.one_mul]
/-- Each value times a power. -/
def Zwz (b:Int) (n:Nat) (f:List Int):List Int:=(List.range (n+1)).map fun j=>f.getD j 0*b^(n-j)
theorem Zn5 {f:Nat→Int} {C:Nat}: ∀(m:Nat),(∀i,i<m→(f i).natAbs≤C)→(sm f m).natAbs≤m*C
 |0,_=>by simp [sm]
 |m+1,h=>by
  have h1:=Zn5 m (fun i hi=>h i (by omega));have h2:=h m (Nat.lt_succ_self m);rw [sm,Nat.succ_mul];omega
theorem Zef {xs:List Int} {B:Nat} (h: ∀x∈xs,x.natAbs<2^B) (i:Nat):(xs.getD i 0).natAbs<2^B:=by
 rw [List.getD_eq_getElem?_getD];cases e:xs[i]? with
 |none=>exact Nat.pow_pos (by decide)
 |some x=>exact h x (List.mem_of_getElem? e)
def Qsb:List Int→List Int
 | []=>[]
 |c::r=>match Qsb r with
  | []=>if c=0 then []else [c]
  |d::t=>c::d::t
def ev:List Int→Int→Int
 | [],_=>0
 |c::r,u=>c+u*ev r u
theorem Q4o (F:Nat→Int) (N i:Nat):((List.range N).map F).getD i 0=if i<N then F i else 0:=by
 rw [List.getD_eq_getElem?_getD,List.getElem?_map];by_cases h:i<N
 ·simp [h]
 ·rw [List.getElem?_eq_none (by simpa using h),if_neg h];rfl
def zipA (p q:List Int):List Int:=(List.range (max p.length q.length)).map fun i=>p.getD i 0+q.getD i 0
def pAdd (p q:List Int):List Int:=Qsb (zipA p q)
def Zn6 (p:List Int) (c:Int):List Int:=Qsb (p.map (· *c))
def conv (p q:List Int):List Int:=(List.range (p.length+q.length-1)).map fun i=>sm (fun k=>p.getD k 0*q.getD (i-k) 0) (i+1)
def pMul (p q:List Int):List Int:=Qsb (conv p q)
def pPow (p:List Int):Nat→List Int
 |0=>Qsb [1]
 |n+1=>pMul (pPow p n) p
def bd (B:Nat) (p:List Int):Prop:= ∀x∈p,x.natAbs<2^B
theorem Zn7 {B:Nat} {p:List Int} (h:bd B p) (i:Nat):(p.getD i 0).natAbs<2^B:=Zef h i
theorem Q4p {f:Nat→Int} {B m:Nat} (hm:m≤64) (h: ∀i,i<m→(f i).natAbs<2^B):(sm f m).natAbs<2^(B+7):=by
 have h1:=Zn5 m (fun i hi=>Nat.le_of_lt (h i hi));have h2:m*2^B≤64*2^B:=Nat.mul_le_mul_right _ hm;have hp:0<2^B:=Nat.pow_pos (by decide);rw [Nat.pow_add,show(2:Nat)^7=128 from rfl];omega
def Zw0 (f:List Int) (n:Nat):List Int:=Zwz 2 n (trans f 1 n)
def Zw1 (f:List Int) (n:Nat):List Int:=(Zw0 f.reverse n).reverse
def Zw5 (p:List Int) (a b d:Int):Nat→List Int
 |0=>[]
 |i+1=>pAdd (Zw5 p a b d i) (Zn6 (pPow (Qsb [a,b]) i) (p.getD i 0*d^(p.length-1-i)))
theorem Qg4 {d:Int} {D:Nat} (h:d.natAbs<2^D) (k:Nat):(d^k).natAbs<2^(D*k+1):=by
 rw [Int.natAbs_pow];have h1:d.natAbs^k≤(2^D)^k:=Nat.pow_le_pow_left (Nat.le_of_lt h) k;rw [←Nat.pow_mul]at h1;rw [Nat.pow_succ];have:=Nat.pow_pos (n:=D*k) (show 0<2 by decide);omega
structure Sg where
  f:Int
  t:Int
  o:Int
  x:List Int
  y:List Int
  z:List Int

/-- The weight of a coefficient in a control value,times 60. -/
def cw (n j k:Nat):Nat:=60/bin n k*bin j k
def ctl (c:List Int) (j:Nat):Int:=sm (fun k=>c.getD k 0*(cw (c.length-1) j k:Int)) (j+1)
/-- The first j control values are within the bounds. -/
def Qel (c:List Int) (o:Int) (j:Nat):Bool:=(List.range j).all fun j=>decide (((ctl c j).natAbs:Int)≤62914560*o)
def Qn4 (c:List Int):Bool:=decide (1≤c.length)&&(decide (c.length≤6)&&(decide (c.length≤1)|| !(c.getD (c.length-1) 0==0)))
def axOK (c:List Int) (o:Int):Bool:=Qn4 c&&Qel c o c.length
def gcdL (g:Nat) (c:List Int):Nat:=c.foldl (fun g x=>Nat.gcd g x.natAbs) g
def Sg.ax (s:Sg):List (List Int):=[s.x,s.y,s.z]
def rngS (s:Sg):Bool:=decide (0≤s.f)&&(decide (s.f<s.t)&&(decide (s.t≤3600000)&&(decide (1≤s.o)&&decide (s.o≤4294967296))))
def Qbo (s:Sg):Bool:=rngS s&&((s.ax.all fun c=>axOK c s.o)&&(s.ax.foldl gcdL s.o.natAbs==1))

theorem Qmb (g:Nat) (c:List Int) (x:Int):gcdL g (c++[x])=Nat.gcd (gcdL g c) x.natAbs:=by simp [gcdL]
theorem Qp4 {g:Nat} (c:List Int) {K:Nat} (hg:g<K) (hc: ∀x∈c,x.natAbs<K):gcdL g c<K:=by
  induction c generalizing g with
  |nil=>exact hg
  |cons x c ih=>
    refine ih (g:=Nat.gcd g x.natAbs) ?_ fun y hy=>hc y (by simp [hy]);rcases Nat.eq_zero_or_pos g with h|h
    · subst h;rw [Nat.gcd_zero_left];exact hc x (by simp)
    · exact Nat.lt_of_le_of_lt (Nat.le_of_dvd h (Nat.gcd_dvd_left _ _)) hg
theorem Qg2 (c:List Int) (o:Int) (j:Nat):Qel c o (j+1)=(Qel c o j&&decide (((ctl c j).natAbs:Int)≤62914560*o)):=by
  simp [Qel,List.range_succ]
theorem Zeg {c:List Int} {o:Int} {j m:Nat} (h:Qel c o j=false) (hm:j≤m):Qel c o m=false:=by
  induction m with
  |zero=>
        obtain rfl:j=0:=by omega
        exact h
  |succ m ih=>
    rw [Qg2];by_cases e:j=m+1
    · subst e;rw [Qg2]at h;exact h
    · rw [ih (by omega)];rfl
theorem Zw2 (n j k:Nat) (hj:j≤5):cw n j k≤1920:=by
  unfold cw;have h1:60/bin n k≤60:=Nat.div_le_self _ _;have h2:=Qju j k;have h3:2^j≤2^5:=Nat.pow_le_pow_right (by decide) hj;have h4:=Nat.mul_le_mul h1 (Nat.le_trans h2 h3);omega
theorem Qp5 {c:List Int} {B n j:Nat} (hc:bd B c) (hj:j≤5) (m:Nat) (hm:m≤6):(sm (fun k=>c.getD k 0*(cw n j k:Int)) m).natAbs<2^(B+11+7):=by
  refine Q4p (by omega) fun i hi=> ?_;rw [Int.natAbs_mul,Nat.pow_add];refine Nat.mul_lt_mul'' (Zn7 hc i) ?_;rw [Int.natAbs_natCast];have:=Zw2 n j i hj;omega
/-- A coordinate at a/d,times the denominator to the power of 5. -/
def plcT (c:List Int) (a d:Int) (k:Nat):Int:=c.getD k 0*(a^k*d^(5-k))
def plc (c:List Int) (a d:Int):Int:=sm (plcT c a d) c.length
def plP (s:Sg) (a d:Int) (i:Nat):Int:=plc (s.ax.getD i []) a d
def plG (s:Sg) (a d:Int) (i:Nat):Nat:=gcdL (s.o*d^5).natAbs ((List.range i).map (plP s a d))
def at3 (P:Nat→Int) (i m:Nat):Int:=if m<i then P m else 0
theorem Qff (s:Sg) (a d:Int) (i:Nat):plG s a d (i+1)=Nat.gcd (plG s a d i) (plP s a d i).natAbs:=by
  unfold plG;rw [List.range_succ,List.map_append];exact Qmb _ _ _
theorem Qp6 {c:List Int} {a d:Int} {B:Nat} (hc:bd B c) (ha:a.natAbs<2^B) (hd:d.natAbs<2^B) (k:Nat) (hk:k≤5):
    (a^k).natAbs<2^(B*5+1)∧(d^(5-k)).natAbs<2^(B*5+1)∧(a^k*d^(5-k)).natAbs<2^(B*5+1+(B*5+1))∧(plcT c a d k).natAbs<2^(B+(B*5+1+(B*5+1))):=by
  have h1:(a^k).natAbs<2^(B*5+1):=Nat.lt_of_lt_of_le (Qg4 ha k) (Nat.pow_le_pow_right (by decide) (by have:=Nat.mul_le_mul_left B hk;omega));have h2:(d^(5-k)).natAbs<2^(B*5+1):=Nat.lt_of_lt_of_le (Qg4 hd (5-k)) (Nat.pow_le_pow_right (by decide) (by have:=Nat.mul_le_mul_left B (show 5-k≤5 by omega);omega));have h3:(a^k*d^(5-k)).natAbs<2^(B*5+1+(B*5+1)):=by rw [Int.natAbs_mul,Nat.pow_add];exact Nat.mul_lt_mul'' h1 h2
  refine⟨h1,h2,h3,?_⟩;unfold plcT;rw [Int.natAbs_mul,Nat.pow_add _ B];exact Nat.mul_lt_mul'' (Zn7 hc k) h3
theorem Qfg {c:List Int} {a d:Int} {B:Nat} (hc:bd B c) (ha:a.natAbs<2^B) (hd:d.natAbs<2^B) (m:Nat) (hm:m≤6):(sm (plcT c a d) m).natAbs<2^(B+(B*5+1+(B*5+1))+7):=
  Q4p (by omega) fun i hi=>(Qp6 hc ha hd i (by omega)).2.2.2
theorem Qus {s:Sg} {a d:Int} (ho:1≤s.o) (hd:1≤d) (i:Nat):0<plG s a d i:=by
  induction i with
  |zero=>
    show 0<(s.o*d^5).natAbs;have h:0<s.o*d^5:=Int.mul_pos (by omega) (Int.pow_pos (by omega));omega
  |succ i ih=>rw [Qff];exact Nat.gcd_pos_of_pos_left _ ih
theorem Zpp {s:Sg} {d:Int} {B:Nat} (ho:s.o.natAbs<2^B) (hd:d.natAbs<2^B):(s.o*d^5).natAbs<2^(B+(B*5+1)):=by
  rw [Int.natAbs_mul,Nat.pow_add _ B];exact Nat.mul_lt_mul'' ho (Qg4 hd 5)
theorem Q4q {s:Sg} {a d:Int} {B:Nat} (hc: ∀c∈s.ax,bd B c) (h6: ∀c∈s.ax,c.length≤6) (ha:a.natAbs<2^B) (hd:d.natAbs<2^B) (i:Nat) (hi:i<3):
    (plP s a d i).natAbs<2^(B+(B*5+1+(B*5+1))+7):=by
  have hi':i<s.ax.length:=hi;have hm:s.ax.getD i []=s.ax[i]:=by rw [List.getD_eq_getElem?_getD,List.getElem?_eq_getElem hi'];rfl
  unfold plP plc;rw [hm];exact Qfg (hc _ (List.getElem_mem hi')) ha hd _ (h6 _ (List.getElem_mem hi'))
theorem Zw3 {s:Sg} {a d:Int} {B:Nat} (hc: ∀c∈s.ax,bd B c) (h6: ∀c∈s.ax,c.length≤6) (ho:s.o.natAbs<2^B) (ha:a.natAbs<2^B) (hd:d.natAbs<2^B) (i:Nat) (hi:i≤3):
    ((plG s a d i:Nat):Int).natAbs<2^(B+(B*5+1+(B*5+1))+7):=by
  rw [Int.natAbs_natCast];refine Qp4 _ (Nat.lt_of_lt_of_le (Zpp ho hd) (Nat.pow_le_pow_right (by decide) (by omega))) ?_;intro x hx;simp only [List.mem_map,List.mem_range]at hx;obtain⟨m,hm,rfl⟩:=hx;exact Q4q hc h6 ha hd m (by omega)
structure V3 where
 x:Int
 y:Int
 z:Int
deriving DecidableEq
def v0:V3:=⟨0,0,0⟩
def inB (n:Int):Bool:= !(decide (n< -1048576)||decide (1048576<n))
def ptB (v:V3):Bool:=inB v.x&&(inB v.y&&inB v.z)
theorem Q34 {n:Int}:inB n=true↔ -1048576≤n∧n≤1048576:=by
 unfold inB;simp only [Bool.not_eq_true',Bool.or_eq_false_iff,decide_eq_false_iff_not];omega
theorem Qjs {v:V3}:ptB v=true↔(-1048576≤v.x∧v.x≤1048576)∧(-1048576≤v.y∧v.y≤1048576)∧(-1048576≤v.z∧v.z≤1048576):=by
 unfold ptB;simp only [Bool.and_eq_true,Q34]
def rowK (k:Int):List Int:=if k=1 then [1]else if k=2 then [0,0,10, -15,6]else []
def Qdc (a b:Int) (row:List Int):List Int:=if a=b then [a]else a::row.map fun f=>f*(b-a)
def legS (a b:V3) (f t k:Int):Sg:=⟨f,t,1,Qdc a.x b.x (rowK k),Qdc a.y b.y (rowK k),Qdc a.z b.z (rowK k)⟩
def tmB (f t:Int):Bool:=decide (0≤f)&&(decide (f<t)&&decide (t≤3600000))
def Qn1 (a b:V3) (f t:Int):Bool:=ptB a&&(ptB b&&tmB f t)
def flyL (a b:V3) (f t k:Int):List Sg:=if Qn1 a b f t=true then [legS a b f t k]else []
def flyE (a b:V3) (f t:Int):Int:=if Qn1 a b f t=true then 0 else 2
def up (v:V3) (r:Int):V3:=⟨v.x,v.y,v.z+r⟩
def arc3 (a b:V3) (r f t:Int):List Sg:=[legS a (up a r) f (f+(t-f)/4) 2,legS (up a r) (up b r) (f+(t-f)/4) (t-(t-f)/4) 2,legS (up b r) b (t-(t-f)/4) t 2]
structure Mv where
 to:V3
 w:Int
 f:Int
 r:Int
def tB (n:Int):Bool:=decide (0≤n)&&decide (n≤3600000)
theorem Qey {n:Int}:tB n=true↔0≤n∧n≤3600000:=by simp [tB]
def hiB (v:V3) (r:Int):Bool:=ptB (up v r)
def mvB (v:V3) (m:Mv) (len:Int):Bool:=
 ptB m.to&&(tB m.w&&(tB m.f&&(tB m.r&&(decide (m.w+m.f≤len)&&(if m.f=0 then decide (m.to=v)&&decide (m.r=0)else if 0<m.r then decide (m.f%4=0)&&(hiB v m.r&&hiB m.to m.r)else true)))))
def Qc0 (v:V3) (f t:Int):List Sg:=flyL v v f t 0
def midL (v:V3) (m:Mv) (b e:Int):List Sg:=if 0<m.r then arc3 v m.to m.r b e else flyL v m.to b e 2
def mvL (v:V3) (m:Mv) (at_ len:Int):List Sg:=
 if m.f=0 then Qc0 v at_ (at_+len)else Qc0 v at_ (at_+m.w)++midL v m (at_+m.w) (at_+m.w+m.f)++Qc0 m.to (at_+m.w+m.f) (at_+len)
def mvE (v:V3) (m:Mv) (at_ len:Int):Int:=
 if ptB v=true∧1≤len∧len≤3600000∧tB at_=true∧mvB v m len=true then(if at_+len≤3600000 then 0 else 3)else 2
def mvP (v:V3) (m:Mv) (at_ len:Int):List Sg:=if mvE v m at_ len=0 then mvL v m at_ len else []
theorem Qcd (a b:V3) (f t k:Int):(flyL a b f t k).length≤1:=by unfold flyL;split<;>simp
theorem Qzu (v:V3) (m:Mv) (a l:Int):(mvL v m a l).length≤5:=by
 unfold mvL;split
 ·exact Nat.le_trans (Qcd _ _ _ _ _) (by decide)
 ·simp only [List.length_append];have h1:=Qcd v v a (a+m.w) 0;have h2:=Qcd m.to m.to (a+m.w+m.f) (a+l) 0;have h3:(midL v m (a+m.w) (a+m.w+m.f)).length≤3:=by
   unfold midL;split
   ·simp [arc3]
   ·exact Nat.le_trans (Qcd _ _ _ _ _) (by decide)
  unfold Qc0;omega
theorem Qec (v:V3) (m:Mv) (a l:Int):(mvP v m a l).length≤5:=by
 unfold mvP;split
 ·exact Qzu _ _ _ _
 ·simp
structure Ac where
 nm:ByteArray
 ln:Int
 mv:List Mv
structure Pg where
 ns:List ByteArray
 hs:List V3
 as_:List Ac
def ac0:Ac:=⟨⟨#[]⟩,0,[]⟩
def mv0:Mv:=⟨v0,0,0,0⟩
def chB (i c:Nat):Bool:=(decide (97≤c)&&decide (c≤122))||((decide (65≤c)&&decide (c≤90))||(decide (0<i)&&((decide (48≤c)&&decide (c≤57))||(decide (c=45)||decide (c=95)))))
def bAt (s:ByteArray) (i:Nat):Nat:=(s.data.toList.getD i 0).toNat
def Qib (s:ByteArray) (k:Nat):Bool:=(List.range k).all fun i=>chB i (bAt s i)
def Qul (s:ByteArray):Bool:=Qib s s.size&&(decide (1≤s.size)&&decide (s.size≤32))
theorem Ql3 (s:ByteArray) (k:Nat):Qib s (k+1)=(Qib s k&&chB k (bAt s k)):=by simp [Qib,List.range_succ]
theorem Q35 {s:ByteArray} {k:Nat} (h:Qib s k=false) {m:Nat} (hm:k≤m):Qib s m=false:=by
 induction m with
 |zero=>
    obtain rfl:k=0:=by omega
    exact h
 |succ m ih=>
  by_cases e:k=m+1
  ·subst e;exact h
  ·rw [Ql3,ih (by omega)];rfl
def nmAt (p:Pg) (i:Nat):ByteArray:=p.ns.getD i ⟨#[]⟩
def hmAt (p:Pg) (i:Nat):V3:=p.hs.getD i v0
def memN (s:ByteArray) (l:List ByteArray):Bool:=l.any fun x=>s==x
def memP (v:V3) (l:List V3):Bool:=l.any fun x=>decide (v=x)
def Q36 (p:Pg) (i:Nat):Bool:=Qul (nmAt p i)&&(!memN (nmAt p i) (p.ns.take i)&&(ptB (hmAt p i)&& !memP (hmAt p i) (p.hs.take i)))
def Qic (p:Pg) (k:Nat):Bool:=(List.range k).all (Q36 p)
def Qn2 (p:Pg):Bool:=decide (1≤p.ns.length)&&(decide (p.ns.length≤64)&&(decide (p.hs.length=p.ns.length)&&Qic p p.ns.length))
theorem Ql4 (p:Pg) (k:Nat):Qic p (k+1)=(Qic p k&&Q36 p k):=by simp [Qic,List.range_succ]
theorem Q37 {p:Pg} {k:Nat} (h:Qic p k=false) {m:Nat} (hm:k≤m):Qic p m=false:=by
 induction m with
 |zero=>
    obtain rfl:k=0:=by omega
    exact h
 |succ m ih=>
  by_cases e:k=m+1
  ·subst e;exact h
  ·rw [Ql4,ih (by omega)];rfl
def Qdb (from_:List V3) (ms:List Mv) (at_ ln:Int) (many:List Int) (i:Nat):Int:=many.getD i 0+((mvP (from_.getD i v0) (ms.getD i mv0) at_ ln).length:Int)
def okAt (from_:List V3) (ms:List Mv) (at_ ln:Int) (many:List Int) (i:Nat):Bool:=decide (mvE (from_.getD i v0) (ms.getD i mv0) at_ ln=0)&&decide (Qdb from_ ms at_ ln many i≤256)
def okTo (from_:List V3) (ms:List Mv) (at_ ln:Int) (many:List Int) (k:Nat):Bool:=(List.range k).all (okAt from_ ms at_ ln many)
def Qbe (from_:List V3) (ms:List Mv) (at_ ln:Int) (many:List Int) (k:Nat):List Int:=(List.range many.length).map fun i=>if i<k then Qdb from_ ms at_ ln many i else many.getD i 0
def actB (n:Nat) (at_:Int) (a:Ac):Bool:=Qul a.nm&&(decide (1≤a.ln)&&(decide (a.ln≤3600000-at_)&&decide (a.mv.length=n)))
def goB (n:Nat) (from_:List V3) (at_:Int) (many:List Int):List Ac→Bool
 | []=>true
 |a::l=>actB n at_ a&&(okTo from_ a.mv at_ a.ln many from_.length&&goB n (a.mv.map Mv.to) (at_+a.ln) (Qbe from_ a.mv at_ a.ln many from_.length) l)
def Qbd (p:Pg):Bool:=Qn2 p&&(decide (p.as_.length≤60)&&goB p.ns.length p.hs 0 (List.replicate p.ns.length 0) p.as_)
def Qcg (p:Pg) (k:Nat):List V3:=if k=0 then p.hs else(p.as_.getD (k-1) ac0).mv.map Mv.to
def begT (p:Pg) (k:Nat):Int:=((p.as_.take k).map Ac.ln).sum
theorem Q38 (fr:List V3) (ms:List Mv) (at_ ln:Int) (many:List Int) (k:Nat):okTo fr ms at_ ln many (k+1)=(okTo fr ms at_ ln many k&&okAt fr ms at_ ln many k):=by simp [okTo,List.range_succ]
theorem Ql5 (fr:List V3) (ms:List Mv) (at_ ln:Int) (many:List Int):Qbe fr ms at_ ln many 0=many:=by
 apply List.ext_getElem
 ·simp [Qbe]
 ·intro i h1 h2;simp [Qbe,List.getD_eq_getElem?_getD,List.getElem?_eq_getElem h2]
theorem Qbx (fr:List V3) (ms:List Mv) (at_ ln:Int) (many:List Int) (k:Nat):(Qbe fr ms at_ ln many k).length=many.length:=by simp [Qbe]
theorem Qb9 {fr:List V3} {ms:List Mv} {at_ ln:Int} {many:List Int} {k i:Nat} (h:i<many.length):(Qbe fr ms at_ ln many k)[i]? =some (if i<k then Qdb fr ms at_ ln many i else many.getD i 0):=by
 simp [Qbe,h]
theorem Qg1 {fr:List V3} {ms:List Mv} {at_ ln:Int} {many:List Int} {k:Nat} (h:k<many.length):(Qbe fr ms at_ ln many k).set k (Qdb fr ms at_ ln many k)=Qbe fr ms at_ ln many (k+1):=by
 apply List.ext_getElem?;intro i;rw [List.getElem?_set];by_cases e:k=i
 ·subst e;simp [Qbe,h]
 ·rw [if_neg e];by_cases hi:i<many.length
  ·rw [Qb9 hi,Qb9 hi];congr 1;by_cases x:i<k
   ·rw [if_pos x,if_pos (by omega)]
   ·rw [if_neg x,if_neg (by omega)]
  ·rw [List.getElem?_eq_none (by rw [Qbx];omega),List.getElem?_eq_none (by rw [Qbx];omega)]
structure Rc where
 t:Int
 a:Int
 k:Int
 v:V3
 s:Int
 fk:Int
 ff:Int
 ft:Int
 fs:Int
 u:Int
deriving DecidableEq
def rc0:Rc:=⟨0,0,0,v0,0,0,0,0,0,0⟩
def wiB (n lo hi:Int):Bool:=decide (lo≤n)&&decide (n≤hi)
theorem Qb7 {n lo hi:Int}:wiB n lo hi=true↔lo≤n∧n≤hi:=by simp [wiB]
def silB (fk ff ft fs:Int):Bool:=decide (fk=0)&&(decide (ff=0)&&(decide (ft=0)&&decide (fs=0)))
def frB (fk ff ft fs:Int):Bool:=wiB fs 0 65535&&(if fk=8∨fk=9 then decide (ft=0)&&wiB ff 1 64 else decide (1≤fk)&&(decide (fk≤7)&&(decide (ff=0)&&wiB ft 1 64)))
def Rc.sil (r:Rc):Bool:=silB r.fk r.ff r.ft r.fs
def Rc.fr (r:Rc):Bool:=frB r.fk r.ff r.ft r.fs
def recB (r:Rc):Bool:=wiB r.t 0 3600000&&(wiB r.a 0 64&&
 (if r.k=1 then decide (0<r.a)&&(ptB r.v&&(decide (r.s=0)&&r.sil))
  else if r.k=2 then wiB r.s 0 (if r.a=0 then 9 else 7)&&(decide (r.v=v0)&&r.sil)
  else if r.k=3 then r.fr&&((decide (r.ff=r.a)||decide (r.ft=r.a))&&(decide (r.v=v0)&&decide (r.s=0)))
  else false))
def lastT (L:List Rc):Int:=(L.getD (L.length-1) rc0).t
def endU (L:List Rc):Int:=if L.length=0 then 0 else(L.getD (L.length-1) rc0).u
def mayE (L:List Rc) (r:Rc):Int:=if recB r=true then(if L.length=0 then 0 else if r.t<lastT L then 8 else 0)else 2
section
variable (sumF:Int→Rc→Int)
def sumR (L:List Rc) (r:Rc):Rc:={r with u:=sumF (endU L) r}
def addL (L:List Rc) (r:Rc):List Rc:=if mayE L r=0∧L.length<10000 then L++[sumR sumF L r]else L
def addE (L:List Rc) (r:Rc):Int:=if mayE L r=0 then(if L.length<10000 then 0 else 7)else mayE L r
end
structure Dv where
 i:Int
 a:Int
 t:Int
 q:Int
deriving DecidableEq
def dv0:Dv:=⟨0,0,0,0⟩
def isP (N:Nat) (r:Rc):Bool:=decide (r.k=1)&&(decide (1≤r.a)&&decide (r.a≤N))
def dv1 (N:Nat) (start:Int) (sq:Rc→Int) (i:Nat) (r:Rc):List Dv:=if isP N r=true then [⟨i,r.a-1,r.t-start,sq r⟩]else []
def devs (N:Nat) (start:Int) (sq:Rc→Int) (L:List Rc):Nat→List Dv
 |0=>[]
 |i+1=>devs N start sq L i++dv1 N start sq i (L.getD i rc0)
theorem Qew (N:Nat) (start:Int) (sq:Rc→Int) (L:List Rc): ∀i,(devs N start sq L i).length≤i
 |0=>Nat.le_refl _
 |i+1=>by
  have:=Qew N start sq L i;simp only [devs,List.length_append];have:(dv1 N start sq i (L.getD i rc0)).length≤1:=by unfold dv1;split<;>simp
  omega
structure Fd where
 k:Int
 a:Int
 i:Int
 t:Int
deriving DecidableEq
def fd0:Fd:=⟨0,0,0,0⟩
def unk1 (N:Nat) (start:Int) (i:Nat) (r:Rc):List Fd:=if(N:Int)<r.a then [⟨1,r.a-1,i,r.t-start⟩]else []
def unks (N:Nat) (start:Int) (L:List Rc):Nat→List Fd
 |0=>[]
 |i+1=>unks N start L i++unk1 N start i (L.getD i rc0)
def inD (n len:Int) (d:Dv):Bool:=decide (d.a=n)&&wiB d.t 0 len
structure Gp where
 last:Int
 rec_:Int
 found:Bool
 out:List Fd
def gapA (gap n len:Int) (D:List Dv):Nat→Gp
 |0=>⟨0,0,false,[]⟩
 |i+1=>
  let g:=gapA gap n len D i
  let d:=D.getD i dv0
  if inD n len d=true then⟨d.t,d.i,true,if gap<d.t-g.last then g.out++[⟨3,n,d.i,d.t⟩]else g.out⟩else g
def Qk9 (gap n len:Int) (g:Gp):List Fd:=if g.found=true then(if gap<len-g.last then [⟨3,n,g.rec_,len⟩]else [])else [⟨2,n,0,0⟩]
def off1 (tol n:Int) (d:Dv):List Fd:=if decide (d.a=n)&&decide (tol*tol<d.q)then [⟨4,n,d.i,d.t⟩]else []
def offs (tol n:Int) (D:List Dv):Nat→List Fd
 |0=>[]
 |i+1=>offs tol n D i++off1 tol n (D.getD i dv0)
def Qd1 (a b:Int):Bool:=
 if a=0∨a=7 then decide (b=1)else if a=1 then decide (b=2)else if a=2 then decide (b=1)||decide (b=3)else if a=3 then decide (b=1)||(decide (b=2)||decide (b=4))
 else if a=4 then decide (b=5)||decide (b=6)else if a=5 then decide (b=4)||decide (b=6)else decide (b=7)
structure Sp where
 bef:Int
 out:List Fd
def isS (n:Int) (bef:Int) (r:Rc):Bool:=decide (r.k=2)&&(decide (r.a=n+1)&& !decide (r.s=bef))
def stA (start n:Int) (L:List Rc):Nat→Sp
 |0=>⟨0,[]⟩
 |i+1=>
  let p:=stA start n L i
  let r:=L.getD i rc0
  if isS n p.bef r=true then⟨r.s,if Qd1 p.bef r.s=true then p.out else p.out++[⟨5,n,i,r.t-start⟩]⟩else p
def ofN (gap tol start len:Int) (D:List Dv) (L:List Rc) (n:Int):List Fd:=
 (gapA gap n len D D.length).out++Qk9 gap n len (gapA gap n len D D.length)++offs tol n D D.length++(stA start n L L.length).out
def ofTo (gap tol start len:Int) (D:List Dv) (L:List Rc):Nat→List Fd
 |0=>[]
 |n+1=>ofTo gap tol start len D L n++ofN gap tol start len D L n
def finds (N:Nat) (gap tol start len:Int) (sq:Rc→Int) (L:List Rc):List Fd:=
 unks N start L L.length++ofTo gap tol start len (devs N start sq L L.length) L N
end Go.Dg

namespace Go.Vl
open Go.Dg
def v3PV (v:V3):PV:= .agg [.int .i64 v.x,.int .i64 v.y,.int .i64 v.z]
def Qid (l:List ByteArray):List (PV×PV):=l.map fun s=>(.str s,.bool true)
def Qdi (l:List V3):List (PV×PV):=l.map fun v=>(.agg [.int .i64 v.x,.int .i64 v.y,.int .i64 v.z],.bool true)
theorem Qum (l:List ByteArray) (s:ByteArray):Qid l++[(.str s,.bool true)]=Qid (l++[s]):=by simp [Qid]
theorem Ql6 (s:ByteArray): ∀l:List ByteArray,Qby [2] (.str s) (Qid l)=some (if memN s l=true then some (.bool true)else none)
 | []=>rfl
 |x::l=>by
  have ih:=Ql6 s l;have e:Qat [2] [.str s] [.str x]=some (s==x):=by simp [Qat]
  show(if(PV.str s).isAgg=(PV.str x).isAgg then match Qat [2] [.str s] [.str x]with
   |some true=>some (some (PV.bool true))
   |some false=>Qby [2] (.str s) (Qid l)
   |none=>none else none)=_
  rw [if_pos (show(PV.str s).isAgg=(PV.str x).isAgg from rfl),e];unfold memN at ih ⊢;rw [List.any_cons];cases h:s==x with
  |true=>simp
  |false=>simp only [Bool.false_or];exact ih
theorem Qjt (v:V3): ∀l:List V3,Qby [1,1,1] (.agg [.int .i64 v.x,.int .i64 v.y,.int .i64 v.z]) (Qdi l)=some (if memP v l=true then some (.bool true)else none)
 | []=>rfl
 |x::l=>by
  have ih:=Qjt v l;have e:Qat [1,1,1] [.int .i64 v.x,.int .i64 v.y,.int .i64 v.z] [.int .i64 x.x,.int .i64 x.y,.int .i64 x.z]=some (decide (v=x)):=by
   cases v;cases x;simp only [Qat,if_true,Option.map_some,V3.mk.injEq,Option.some.injEq,Bool.and_true];simp only [Bool.decide_and];rfl
  show(if(PV.agg [.int .i64 v.x,.int .i64 v.y,.int .i64 v.z]).isAgg=(PV.agg [.int .i64 x.x,.int .i64 x.y,.int .i64 x.z]).isAgg then match Qat [1,1,1] [.int .i64 v.x,.int .i64 v.y,.int .i64 v.z] [.int .i64 x.x,.int .i64 x.y,.int .i64 x.z]with
   |some true=>some (some (PV.bool true))
   |some false=>Qby [1,1,1] (.agg [.int .i64 v.x,.int .i64 v.y,.int .i64 v.z]) (Qdi l)
   |none=>none else none)=_
  rw [if_pos (show(PV.agg [.int .i64 v.x,.int .i64 v.y,.int .i64 v.z]).isAgg=(PV.agg [.int .i64 x.x,.int .i64 x.y,.int .i64 x.z]).isAgg from rfl),e];unfold memP at ih ⊢;rw [List.any_cons];cases h:decide (v=x)with
  |true=>simp
  |false=>simp only [Bool.false_or];exact ih
theorem Qr1 {s:ByteArray} {l:List ByteArray} (h:memN s l=false):Qby [2] (.str s) (Qid l)=some none:=by rw [Ql6,h];rfl
theorem Qpv {s:ByteArray} {l:List ByteArray} (h:memN s l=true):Qby [2] (.str s) (Qid l)=some (some (.bool true)):=by rw [Ql6,h];rfl
theorem Qpw {v:V3} {l:List V3} (h:memP v l=false):Qby [1,1,1] (.agg [.int .i64 v.x,.int .i64 v.y,.int .i64 v.z]) (Qdi l)=some none:=by rw [Qjt,h];rfl
theorem Qn3 {v:V3} {l:List V3} (h:memP v l=true):Qby [1,1,1] (.agg [.int .i64 v.x,.int .i64 v.y,.int .i64 v.z]) (Qdi l)=some (some (.bool true)):=by rw [Qjt,h];rfl
theorem Qpx (a:Int):Qby [1] (.int .i64 a) []=some none:=rfl
theorem Qli (a b:Int) (v:PV) (es:List (PV×PV)):Qby [1] (.int .i64 a) ((.int .i64 b,v)::es)=if a=b then some (some v)else Qby [1] (.int .i64 a) es:=by
 have e:Qat [1] [.int .i64 a] [.int .i64 b]=some (decide (a=b)):=by simp [Qat];rfl
 show(if(PV.int .i64 a).isAgg=(PV.int .i64 b).isAgg then match Qat [1] [.int .i64 a] [.int .i64 b]with
  |some true=>some (some v)
  |some false=>Qby [1] (.int .i64 a) es
  |none=>none else none)=_
 rw [if_pos (show(PV.int .i64 a).isAgg=(PV.int .i64 b).isAgg from rfl),e];by_cases h:a=b
 ·simp [h]
 ·simp [h]
theorem Ql7 {α:Type} (f:α→α) (a:α): ∀l:List α,(l++[a]).modify l.length f=l++[f a]
 | []=>rfl
 |x::l=>congrArg (x:: ·) (Ql7 f a l)
theorem Qr2 (l:List V3) (v:V3):(Qdi l++[((.agg [.int .i64 v.x,.int .i64 v.y,.int .i64 v.z]:PV),(.bool false:PV))]).modify (Qdi l).length (fun p=>(p.1,(.bool true:PV)))=Qdi (l++[v]):=by
 rw [Ql7];simp [Qdi]
end Go.Vl
