/-
  UYG, UZ, LF1, LF2, LF3, LF4 (merged for the claim).
-/
import Derived.Test.YtjlkapdmgjocdaaGreatUY
import Derived.Test.YtjlkapdmgjocdaaGreatDsg
set_option linter.unusedSimpArgs false
set_option linter.unusedVariables false
namespace Go.Vl
open Go.RowKit
theorem Qj8 {P:Program} {tb:Tab} {f:FuncId} {fn:Func} {c:Code} {cap:List PV} {outs:List (List PV)} (nt:Nat) (ks:List Nat) (hm:P.follows .mixedOrders=true) (hf:P.funcs[f]? =some fn) (hb:fn.body=some c)
  (hc:callable P f=true) (hnt:fn.ntmps=nt) (hrs:fn.results.toList=[]) (hn:Nat.ble (cap.length+1) nt=true)
  (h: ∀l stop,go P tb nt ks [.code c] (Qj6 outs stop) (St.ofG (Qc3 0 (.yld l stop::cap)) [] [] (some (l,stop,outs)))):Qia P f cap outs:=
 Zcr nt hf hb hc hnt hrs hn fun l stop=>Qcr (tb:=tb) (ks:=ks) hm c _ _ (by
  have h:=h l stop;simp only [go]at h;have:(fun e s=>gleave P tb nt ks [] (Qj6 outs stop) e s)=Qj6 outs stop:=by funext e s;simp only [gleave]
  rwa [this]at h)
theorem Q0a {P:Program} {tb:Tab} {nt:Nat} {ks:List Nat} {K:List It} {Q:Exit→St→Prop} (hm:P.follows .mixedOrders=true) {vs0:List (Nat×PV)} {bs0:List (Nat×Box)} {o0:List (List PV)} {g:Operand} {ps:Array Tmp} {assign body:Code} {f:FuncId} {cap xs:List PV} {es:List Eff} {la:Acc} {outs:List (List PV)}
  (hs:Qia P f xs outs) (hg:(St.ofG vs0 bs0 o0 none).ev g=some (.fn f [] cap)) (he:Qfq cap (lkp bs0)=some ((xs,es),la))
  (bs1:List (Nat×Box)) (he1:Qal es (St.ofG vs0 bs0 o0 none)=St.ofG vs0 bs1 o0 none)
  (θ:List (Nat×Nat)) (N:List Nat) (hN:(N.all fun b=>Nat.ble LENT b)=true) (vs:List (Nat×PV)) (B:Nat→List (Nat×Box))
  (hκ:Qjo θ=true) (hall:(θ.all fun p=>(lkp (B 0) p.1).isSome)=true) (hv:Qac θ vs0 vs) (hb:Qen θ bs1 (B 0)) (hvN:Qac (Qj7 N) vs vs)
  (stop:Nat) (jump:Exit) (hjump:stop<outs.length→(Qu5 jump).isSome=true) (hBN: ∀k,k≤outs.length→k≤stop+1→ ∀b∈N,(lkp (B k) b).isSome=true)
  (hps: ∀(k:Nat) (args:List PV),outs[k]? =some args→args.length=ps.size) (hpt:(ps.toList.all fun t=>Nat.blt t nt)=true)
  (hbody: ∀(k:Nat) (args:List PV),outs[k]? =some args→k≤stop→go P tb nt ks [.code assign,.again fun s=>(∀b∈N,(s.box b).isSome=true)∧go P tb nt ks [.code body] (vround B stop jump k) s] (fun _ _=>False) (St.ofG (pvars ps.toList args vs) (B k) [[]] (some (0,0,[]))))
  (θF:List (Nat×Nat)) (vsF:List (Nat×PV)) (bsF:List (Nat×Box)) (hκF:Qjo θF=true) (hallF:(θF.all fun p=>(lkp bsF p.1).isSome&&Nat.blt p.1 LENT)=true) (hvF:Qac θF vs vsF)
  (hbF:Qen θF (B (min outs.length (stop+1))) bsF)
  (hQ1:outs.length≤stop→go P tb nt ks K Q (St.ofG vsF bsF o0 none)) (hQ2:stop<outs.length→gleave P tb nt ks K Q jump (St.ofG vsF bsF o0 none)):go P tb nt ks (.code (.rangeFunc g ps assign body)::K) Q (St.ofG vs0 bs0 o0 none):=by
 simp only [go,vx];refine Qso hg he hs bs1 he1 θ N hN vs B hκ hall hv hb hvN stop jump hjump hBN hps hpt (fun j args h1 h2=> ?_) θF vsF bsF hκF hallF hvF hbF ?_
 ·have h:=hbody j args h1 h2;simp only [go]at h;refine Qj4 (Qcr hm _ _ _ h) ?_;intro e s q;cases e with
  |normal=>
   simp only [gleave]at q;refine⟨q.1,Qcr (tb:=tb) (ks:=ks) hm _ _ _ ?_⟩;have h2:=q.2;exact h2
  |_=>simp only [gleave]at q
 ·by_cases hl:outs.length≤stop
  ·rw [if_pos hl,Qc4];exact hQ1 hl
  ·rw [if_neg hl];exact hQ2 (by omega)
theorem Qhd {P:Program} {tb:Tab} {nt:Nat} {ks:List Nat} {K:List It} {Q:Exit→St→Prop} (hm:P.follows .mixedOrders=true) {vs0:List (Nat×PV)} {bs0:List (Nat×Box)} {o0:List (List PV)} {g:Operand} {ps:Array Tmp} {assign body:Code} {f:FuncId} {cap xs:List PV} {es:List Eff} {la:Acc} {outs:List (List PV)}
  (hs:Qia P f xs outs) (hg:(St.ofG vs0 bs0 o0 none).ev g=some (.fn f [] cap)) (he:Qfq cap (lkp bs0)=some ((xs,es),la))
  (bs1:List (Nat×Box)) (he1:Qal es (St.ofG vs0 bs0 o0 none)=St.ofG vs0 bs1 o0 none)
  (θ:List (Nat×Nat)) (N:List Nat) (hN:(N.all fun b=>Nat.ble LENT b)=true) (vs:List (Nat×PV)) (B:Nat→List (Nat×Box))
  (hκ:Qjo θ=true) (hall:(θ.all fun p=>(lkp (B 0) p.1).isSome)=true) (hv:Qac θ vs0 vs) (hb:Qax θ bs1 (B 0)) (hvN:Qac (Qj7 N) vs vs)
  (stop:Nat) (jump:Exit) (hjump:stop<outs.length→(Qu5 jump).isSome=true) (hBN: ∀k,k≤outs.length→k≤stop+1→ ∀b∈N,(lkp (B k) b).isSome=true)
  (hps: ∀(k:Nat) (args:List PV),outs[k]? =some args→args.length=ps.size) (hpt:(ps.toList.all fun t=>Nat.blt t nt)=true)
  (hbody: ∀(k:Nat) (args:List PV),outs[k]? =some args→k≤stop→go P tb nt ks [.code assign,.again fun s=>(∀b∈N,(s.box b).isSome=true)∧go P tb nt ks [.code body] (vround B stop jump k) s] (fun _ _=>False) (St.ofG (pvars ps.toList args vs) (B k) [[]] (some (0,0,[]))))
  (θF:List (Nat×Nat)) (vsF:List (Nat×PV)) (bsF:List (Nat×Box)) (hκF:Qjo θF=true) (hallF:(θF.all fun p=>(lkp bsF p.1).isSome&&Nat.blt p.1 LENT)=true) (hvF:Qac θF vs vsF)
  (hbF:Qax θF (B (min outs.length (stop+1))) bsF)
  (hQ1:outs.length≤stop→go P tb nt ks K Q (St.ofG vsF bsF o0 none)) (hQ2:stop<outs.length→gleave P tb nt ks K Q jump (St.ofG vsF bsF o0 none)):go P tb nt ks (.code (.rangeFunc g ps assign body)::K) Q (St.ofG vs0 bs0 o0 none):=
 Q0a hm hs hg he bs1 he1 θ N hN vs B hκ hall hv hb.toD hvN stop jump hjump hBN hps hpt hbody θF vsF bsF hκF hallF hvF hbF.toD hQ1 hQ2
theorem Zmv {P:Program} {tb:Tab} {nt:Nat} {ks:List Nat} (K:List It) (Q:Exit→St→Prop) (st:St):gleave P tb nt ks K Q .ret st=Q .ret st:=Qfw K Q st
theorem Zxz {a b:Int} [Decidable (a<b)]:(if a<b then b else a)=max a b:=by split<;>omega
theorem Zx0 {a b:Int} [Decidable (a<b)]:(if a<b then a else b)=min b a:=by split<;>omega
theorem Qx0 {P:Program} {tb:Tab} {nt:Nat} {ks:List Nat} {ops:Array Oper} {base i:Nat} {rest:List Oper} {accs:List Acc} {draw:Bool} {k:List It} {Q:Exit→St→Prop} (vs:List (Nat×PV)) (bs:List (Nat×Box)) (o:List (List PV)) (y:Yl) (dst:Option Tmp) (n stop:Nat) (args:List PV) (l:Acc):
  gout P tb nt ks (some (.yield n stop args [],l)) ops base i dst rest accs draw k Q (St.ofG vs bs o y)=
  (yOk y n stop o args∧gops P tb nt ks ops base (i+1) rest ((l++[(YID,true)])::accs) draw k Q ((St.ofG vs bs (o++[args]) y).put dst (.bool (decide (o.length<stop))))):=by
 rw [Qqd];simp only [Qcm,List.map_nil,List.append_nil];rfl
attribute [go_sem 10000] Qx0
theorem Zlq (n stop n' stop':Nat) (outs o:List (List PV)) (args:List PV):yOk (some (n',stop',outs)) n stop o args=(n=n'∧stop=stop'∧o.length≤stop∧outs[o.length]? =some args):=rfl
attribute [go_sem] Zlq
end Go.Vl

namespace Go.Vl
open Go.RowKit
theorem Qu6 {w:World} {im:Im} {ρ ρ':Rho} {θ:List (Nat×Nat)} (hρ: ∀b b0 x,lkp θ b=some b0→ρ b0=some x→ρ' b=some x): ∀{vs vs':List PV} {us:List Value},Qgy θ vs'=some vs→LRL w im ρ vs us→LRL w im ρ' vs' us
 |vs,[],us,hr,h=>by simp [Qgy]at hr;subst hr;cases h.nil_inv;exact .nil
 |vs,v'::vs',us,hr,h=>by
  unfold Qgy at hr;split at hr
  ·cases hr
  ·rename_i x hx;split at hr
   ·cases hr
   ·rename_i xs hxs;cases hr;obtain⟨u,us',rfl,h1,h2⟩:=h.cons_inv;exact .cons _ _ _ _ (Qhv hρ hx h1) (Qu6 hρ hxs h2)
theorem Zx1 {θ:List (Nat×Nat)} {xs rs:List PV} {bs bs':List (Nat×Box)} {o:List (List PV)} {y:Yl} (hθ:Qis θ bs'=true) (hv:Qgy θ rs=some xs) (hb:Qax θ bs bs'):Le (St.ofG [(0,.tup xs)] bs o y) (St.ofG [(0,.tup rs)] bs' o y):=by
 simp only [Qis,Bool.and_eq_true]at hθ;obtain⟨hκ,hθ⟩:=hθ;have hall:(θ.all fun p=>(lkp bs' p.1).isSome)=true:=by
  rw [List.all_eq_true]at hθ ⊢;intro p hp;have:=hθ p hp;simp only [Bool.and_eq_true]at this;exact this.1
 rintro C a w ⟨ρ,im,h⟩;have raw:=h.raw.ren (vs':=[]) (o':=o) (y':=y) hκ hall trivial hb.toD;have hρ: ∀b b0 x,lkp θ b=some b0→ρ b0=some x→rhoC θ ρ b=some x:=by
  intro b b0 x e1 e2;simp only [rhoC,e1];exact e2
 refine⟨rhoC θ ρ,im,h.step ⟨.refl _ _ _,Keeps.refl _ _,fun g x=> .inl (Qmj x),fun _ _ x=>x,fun _ _ x=> .inl x⟩ ?_,h.nt,h.dfr,h.imc,?_,raw.rho,fun b x B hx hB=>(raw.box b x B hx hB).own fun g e=> ?_,raw.inj⟩
 ·intro b x x' hL h0 hx';simp only [rhoC]at hx';cases hb0:lkp θ b with
  |none=>rw [hb0]at hx';cases hx'
  |some b0=>
   rw [hb0]at hx';have:=List.all_eq_true.1 hθ _ (Qcf hb0);simp only [Bool.and_eq_true,Bool.or_eq_true,beq_iff_eq]at this;rcases this.2 with q|q
   ·have:=Nat.le_of_ble_eq_true q;omega
   ·subst q;exact h.root.rho0 b x x' hL h0 hx'
 ·intro t v hvt;simp only [Zms,lkp]at hvt;split at hvt
  ·rename_i e;cases hvt;subst e;have h1:=h.var 0 (.tup xs) (by simp [St.ofG,lkp]);obtain⟨us,hu,hr⟩:=h1.tup_inv;rw [hu];exact .tup _ _ (Qu6 hρ hv hr)
  ·cases hvt
 ·have:Own (rhoC θ ρ) g:=⟨b,by rw [hx,e]⟩;exact(h.ownB (Qmj this)).1
theorem LRL.setAt {w:World} {im:Im} {ρ:Rho}: ∀{vs:List PV} {us:List Value} {j:Nat} {v v':PV},LRL w im ρ vs us→vs[j]? =some v→(∀u,LR w im ρ v u→LR w im ρ v' u)→LRL w im ρ (vs.set j v') us
 |_,_,0,_,_,.cons _ _ _ _ h t,hv,k=>by simp at hv;subst hv;exact .cons _ _ _ _ (k _ h) t
 |_,_,j+1,_,_,.cons _ _ _ _ h t,hv,k=> .cons _ _ _ _ h (t.setAt (by simpa using hv) k)
 |_,_,_,_,_,.nil,hv,_=>by simp at hv
theorem Ztx {st:St} {b j nb esz:Nat} {ety:TypeId} {B:Box} {cs:List PV} (hL:Nat.blt nb LENT=true) (hB:st.box b=some B) (ha:B.arr=false) (he:B.els=[.agg cs]) (hj:cs[j]? =some .nilS) (hn:st.box nb=none) (hz:0<esz):
  Le st ((st.setBox nb {els:=[],esz:=esz,ety:=ety,fro:=0,live:=true,arr:=true}).setBox b {B with els:=[.agg (cs.set j (.bs nb esz 0 0))]}):=by
 rintro C a w ⟨ρ,im,h⟩;have hbn:b≠nb:=by rintro rfl;rw [hB]at hn;cases hn
 obtain⟨h1,h2⟩:=h.addBox ⟨.refl _ _ _,Keeps.refl _ _,fun _ x=> .inl x,fun _ _ x=>x,fun _ _ x=> .inl x⟩ h (Nat.le_of_ble_eq_true hL) hn {els:=[],esz:=esz,ety:=ety,fro:=0,live:=true,arr:=true} none (by intro g e;cases e) ⟨rfl,rfl,rfl,hz⟩ (by intro b' g B' e;cases e);have hB1:(st.setBox nb {els:=[],esz:=esz,ety:=ety,fro:=0,live:=true,arr:=true}).box b=some B:=by simp [St.setBox,Qam _ _ _ _ hbn,hB]
 generalize hst:st.setBox nb {els:=[],esz:=esz,ety:=ety,fro:=0,live:=true,arr:=true}=st1 at*;refine⟨upd ρ nb (some none),im,h1.root,h1.nt,h1.dfr,h1.imc,h1.var,?_,?_,?_⟩
 ·intro b';by_cases e:b'=b
  ·subst e;simp [St.setBox,Qao,h1.rho b',hB1]
  ·simp [St.setBox,Qam _ _ _ _ e,h1.rho b']
 ·intro b' x B' hx hB';by_cases e:b'=b
  ·subst e;simp only [St.setBox,Qao,Option.some.injEq]at hB';subst hB';have hb:=h1.box b' x B hx hB1;cases x with
   |none=>obtain⟨z1,_⟩:=hb;rw [he]at z1;cases z1
   |some g=>
    obtain⟨k1,k2,k3,k4,⟨hmn,cur,us,rest,k5,k6,k7,k8,k9,k10,k11⟩|hm⟩:=hb
    case inr=>rw [hm.1]at he;cases he
    rw [he]at k2 k4 k7;simp only [List.flatMap_cons,List.flatMap_nil,List.append_nil]at k7;refine⟨k1,by simpa using k2,k3,?_,.inl ⟨hmn,cur,us,rest,k5,k6,?_,(by intro q;rw [ha]at q;cases q),k9,k10,k11⟩⟩
    ·intro e he';simp only [List.mem_singleton]at he';subst he';have:=k4 (.agg cs) (by simp);simpa [PV.cells]using this
    ·simp only [List.flatMap_cons,List.flatMap_nil,List.append_nil];refine LRL.setAt (vs:=cs) k7 hj fun u hu=> ?_;rw [hu.nilS_inv];exact .bsNil nb esz none (Qao _ _ _)
  ·simp only [St.setBox,Qam _ _ _ _ e]at hB';exact h1.box b' x B' hx hB'
 ·have key: ∀b' B',(st1.setBox b {B with els:=[.agg (cs.set j (.bs nb esz 0 0))]}).box b'=some B'→ ∃B0,st1.box b'=some B0∧B0.live=B'.live:=fun b' B' e=>by
   by_cases y:b'=b
   ·subst y;simp only [St.setBox,Qao,Option.some.injEq]at e;subst e;exact⟨B,hB1,rfl⟩
   ·exact⟨B',by simpa only [St.setBox,Qam _ _ _ _ y]using e,rfl⟩
  intro b1 b2 g B1 B2 g1 g2 e1 e2 l1 l2;obtain⟨C1,x1,y1⟩:=key _ _ e1;obtain⟨C2,x2,y2⟩:=key _ _ e2;exact h1.inj b1 b2 g C1 C2 g1 g2 x1 x2 (y1.trans l1) (y2.trans l2)
theorem Qsp {vs:List (Nat×PV)} {bs:List (Nat×Box)} {o:List (List PV)} {y:Yl} (b j nb esz:Nat) (ety:TypeId) {B:Box} {cs:List PV} (hL:Nat.blt nb LENT=true) (hB:lkp bs b=some B) (ha:B.arr=false) (he:B.els=[.agg cs]) (hj:cs[j]? =some .nilS) (hn:lkp bs nb=none) (hz:0<esz):
  Le (St.ofG vs bs o y) (St.ofG vs ((b,{B with els:=[.agg (cs.set j (.bs nb esz 0 0))]})::(nb,{els:=[],esz:=esz,ety:=ety,fro:=0,live:=true,arr:=true})::bs) o y):=Ztx (st:=St.ofG vs bs o y) hL hB ha he hj hn hz
end Go.Vl

namespace Go.Proofs.YtjlkapdmgjocdaaGreat
open Go.Vl Go.RowKit Go.Dg
def sgV (s:Sg):PV:= .agg [.int .i64 s.f,.int .i64 s.t,.int .i64 s.o,.slc (s.x.map (PV.int .i64)),.slc (s.y.map (PV.int .i64)),.slc (s.z.map (PV.int .i64))]
def pV (p:List Sg):PV:= .slc (p.map sgV)
theorem lt_T {i n:Nat} (h:i<n):((i:Int)<(n:Int))=True:=by simp only [eq_iff_iff,iff_true];omega
theorem lt_F {i n:Nat} (h: ¬i<n):((i:Int)<(n:Int))=False:=by simp only [eq_iff_iff,iff_false];omega
theorem nn_T (i:Nat):((0:Int)≤(i:Int))=True:=by simp
theorem wr_1 {n:Nat} (h:n<9223372036854775807):IntKind.i64.wrap ((n:Int)+1)=((n+1:Nat):Int):=by rw [Qag (by omega) (by omega)];omega
theorem Qkk {α:Type} (l:List α) (i:Nat) (hi:i<l.length):l.take (i+1)=l.take i++[l[i]]:=by rw [List.take_add_one];simp [hi]
theorem Zuq {α:Type} {p:α→Bool} {l:List α} {i:Nat} (hi:i<l.length) (h:(l.take i).all p=true) (hp:p l[i]=true):(l.take (i+1)).all p=true:=by
 rw [List.take_add_one,List.all_append,h];simp [hi,hp]
theorem Zur {α:Type} {p:α→Bool} {l:List α} {i:Nat} (hi:i<l.length) (hp:p l[i]=false):l.all p=false:=by
 rw [List.all_eq_false];exact⟨l[i],List.getElem_mem hi,by simp [hp]⟩
theorem T_m1:Qrt Tryz.prog 213=some (184,78):=by kernel_rfl
theorem T_m2:Q2t Tryz.prog 184=some [1]:=by kernel_rfl
theorem T_m3:Qbf Tryz.prog 184=false:=by kernel_rfl
theorem Zdu (xs:List Int) (hx:xs.length≤1000):Qaf Tryz.prog 75 [.int .i64 1048576,.slc (xs.map (PV.int .i64))] (.bool (xs.all inB)):=by
 have hwm:IntKind.i64.wrap (0-1048576)= -1048576:=by rw [Qag (by decide) (by decide)];rfl
 have hwn:IntKind.i64.wrap (-1048576)= -1048576:=Qag (by decide) (by decide);refine Qab (tb:=[]) 23 [.tmp 4] [0,1,4,6,7,8,9,10,21] mixed Tryz.func75 rfl (by kernel_rfl) (by kernel_rfl) (by kernel_rfl) (by kernel_rfl) ?_;repeat (first|(simp -implicitDefEqProofs only [go_sem,Nat.reduceAdd,Nat.reduceMul,Nat.reduceEqDiff,Nat.reduceLT,Nat.reduceLeDiff,reduceCtorEq,List.length_map]))
 refine Qar mixed (fun k:{k:Nat // k≤xs.length∧(xs.take k).all inB=true}=>St.of [(0,.int .i64 1048576),(1,.slc (xs.map (PV.int .i64))),(4,.bool false),(7,.slc (xs.map (PV.int .i64))),(8,.int .i64 (xs.length:Int)),(9,.int .i64 k.1)] []) (fun k=>xs.length-k.1) ⟨0,Nat.zero_le _,rfl⟩ ?_ ?_
 ·exact Qa3 (by simp [Qac,lkp,ren1,ren0,Qai])
 ·rintro⟨k,hk,hall⟩;by_cases hlt:k<xs.length
  ·have h1:=lt_T hlt;have h0:=nn_T k;have ea:(xs.map (PV.int .i64))[k]? =some (.int .i64 xs[k]):=by simp [hlt]
   have hwk:=wr_1 (n:=k) (by omega);have hn:=fun h=>Zur (p:=inB) hlt h;have hs:=fun h=>Zuq (p:=inB) hlt hall h;generalize xs[k]=x at*;by_cases ha:x< -1048576
   ·have ha':(x< -1048576)=True:=eq_true ha;rw [hn (by simp [inB,ha])];repeat (first|(simp -implicitDefEqProofs only [go_sem,Nat.reduceAdd,Nat.reduceMul,Nat.reduceEqDiff,Nat.reduceLT,Nat.reduceLeDiff,reduceCtorEq,Int.reduceSub,Int.reduceNeg,h1,h0,Int.toNat_natCast,ea,hwn,ha',decide_true]))
   ·have ha':(x< -1048576)=False:=eq_false ha;by_cases hb:1048576<x
    ·have hb':(1048576<x)=True:=eq_true hb;rw [hn (by simp [inB,hb])];repeat (first|(simp -implicitDefEqProofs only [go_sem,Nat.reduceAdd,Nat.reduceMul,Nat.reduceEqDiff,Nat.reduceLT,Nat.reduceLeDiff,reduceCtorEq,Int.reduceSub,Int.reduceNeg,h1,h0,Int.toNat_natCast,ea,hwn,ha',hb',decide_true,decide_false]))
    ·have hb':(1048576<x)=False:=eq_false hb;repeat (first|(simp -implicitDefEqProofs only [go_sem,Nat.reduceAdd,Nat.reduceMul,Nat.reduceEqDiff,Nat.reduceLT,Nat.reduceLeDiff,reduceCtorEq,Int.reduceSub,Int.reduceNeg,h1,h0,Int.toNat_natCast,ea,hwn,ha',hb',hwk,decide_false]))
     refine⟨⟨k+1,hlt,hs (by simp [inB,ha,hb])⟩,by simp only;omega,?_⟩;exact Qa3 (by simp [Qac,lkp,ren1,ren0,Qai])
  ·have h1:=lt_F hlt;rw [List.take_of_length_le (by omega)]at hall;rw [hall];repeat (first|(simp -implicitDefEqProofs only [go_sem,Nat.reduceAdd,Nat.reduceMul,Nat.reduceEqDiff,Nat.reduceLT,Nat.reduceLeDiff,reduceCtorEq,h1]))
theorem Qf0 (v:V3):Qaf Tryz.prog 62 [v3PV v] (.bool (ptB v)):=by
 have h:=Zdu [v.x,v.y,v.z] (by simp);have e:([v.x,v.y,v.z].all inB)=ptB v:=by simp [ptB]
 rw [e]at h;simp only [List.map_cons,List.map_nil]at h;unfold v3PV;refine Qab (tb:=[]) 11 [.tmp 2] [0,1,2] mixed Tryz.func62 rfl (by kernel_rfl) (by kernel_rfl) (by kernel_rfl) (by kernel_rfl) ?_;repeat (first|(simp -implicitDefEqProofs only [go_sem,Nat.reduceAdd,Nat.reduceMul,Nat.reduceEqDiff,Nat.reduceLT,Nat.reduceLeDiff,reduceIte,reduceCtorEq])|((with_reducible refine Qaa h ?_ ?_ ?_);rfl;rfl))
def Zus:List (PV×PV):=[(.int .i64 0,.slc []),(.int .i64 1,.slc [.int .i64 1]),(.int .i64 2,.slc [.int .i64 0,.int .i64 0,.int .i64 10,.int .i64 (-15),.int .i64 6])]
theorem Zut:Qdd Tryz.prog 142 [] [] (.mp 100) [(100,{els:=[],esz:=1,ety:=213,fro:=0,live:=true,arr:=true,mp:=some Zus})]:=by
 refine Qcz (tb:=[]) 5 [.tmp 0] [0] mixed Tryz.func142 rfl (by kernel_rfl) (by kernel_rfl) (by kernel_rfl) (by kernel_rfl) (by rfl) ?_;repeat (first|(simp -implicitDefEqProofs only [go_sem,Nat.reduceAdd,Nat.reduceMul,Nat.reduceEqDiff,Nat.reduceLT,Nat.reduceLeDiff,reduceIte,reduceCtorEq,Int.reduceEq,Nat.reduceBneDiff,Int.reduceNeg,T_m1,T_m2,T_m3,Qqr,Ql5]))
 refine Qb9 (.inl rfl) ?_;simp -implicitDefEqProofs only [go_sem,Int.reduceNeg];refine Qaj (θ:=[(100,100)]) rfl ?_ ?_
 ·simp [Qac,lkp,ren1,ren0,Qai]
 ·exact⟨⟨rfl,rfl,rfl,rfl,rfl,.inl ⟨rfl,rfl⟩⟩,trivial⟩
def okC (n:Int):Prop:= -4194304≤n∧n≤4194304
def tmL (a b:Int) (row:List Int) (k:Nat):List PV:= .int .i64 a::(row.take k).map fun f=> .int .i64 (f*(b-a))
theorem Zl4 {a b:Int} {row:List Int} {k:Nat} (h:k≤row.length):(tmL a b row k).length=k+1:=by simp [tmL];omega
theorem Zyb (a b:Int) (row:List Int) (k:Nat):((tmL a b row k).flatMap PV.cells).all PV.okCell=true:=by
 rw [List.all_flatMap,List.all_eq_true];intro e he;unfold tmL at he;rcases List.mem_cons.1 he with rfl|he
 ·rfl
 ·obtain⟨f,_,rfl⟩:=List.mem_map.1 he;rfl
theorem Znx {a b:Int} {row:List Int} {k:Nat} (h:k<row.length):tmL a b row (k+1)=tmL a b row k++[.int .i64 (row[k]*(b-a))]:=by
 unfold tmL;rw [Qkk _ _ h];simp only [List.map_append,List.map_cons,List.map_nil,List.cons_append]
theorem Zuu {a b:Int} {row:List Int}:tmL a b row row.length=(a::row.map fun f=>f*(b-a)).map (PV.int .i64):=by
 unfold tmL;rw [List.take_length];simp
theorem Qv0 (a b:Int) (row:List Int) (hr:row.length≤16) (hrow: ∀f∈row, -100≤f∧f≤100) (ha:okC a) (hb:okC b):Qaf Tryz.prog 143 [.int .i64 a,.int .i64 b,.slc (row.map (PV.int .i64))] (.slc ((Qc5 a b row).map (PV.int .i64))):=by
 unfold okC at ha hb;have wd:IntKind.i64.wrap (b-a)=b-a:=Qag (by omega) (by omega);by_cases hab:a=b
 ·have h1:(a != b)=false:=by simp [hab]
  have e:Qc5 a b row=[a]:=if_pos hab;rw [e];refine Qab (tb:=[]) 31 [.tmp 6] [0,1,2,6,7,9,14,15,16,17,18] mixed Tryz.func143 rfl (by kernel_rfl) (by kernel_rfl) (by kernel_rfl) (by kernel_rfl) ?_;repeat (first|(simp -implicitDefEqProofs only [go_sem,Nat.reduceAdd,Nat.reduceMul,Nat.reduceEqDiff,Nat.reduceLT,Nat.reduceLeDiff,reduceIte,reduceCtorEq,h1,List.map_cons,List.map_nil]))
 ·have h1:(a != b)=true:=by simp [hab]
  have e:Qc5 a b row=a::row.map fun f=>f*(b-a):=if_neg hab;rw [e,←Zuu];refine Qab (tb:=[]) 31 [.tmp 6] [0,1,2,6,7,9,14,15,16,17,18] mixed Tryz.func143 rfl (by kernel_rfl) (by kernel_rfl) (by kernel_rfl) (by kernel_rfl) ?_;repeat (first|(simp -implicitDefEqProofs only [go_sem,Nat.reduceAdd,Nat.reduceMul,Nat.reduceEqDiff,Nat.reduceLT,Nat.reduceLeDiff,reduceCtorEq,h1,List.length_map]))
  refine Qar mixed (fun k:{k:Nat // k≤row.length}=>St.of [(0,.int .i64 a),(1,.int .i64 b),(7,.bs 7 1 0 (k.1+1)),(15,.slc (row.map (PV.int .i64))),(16,.int .i64 (row.length:Int)),(17,.int .i64 (k.1:Int))]
   [(7,{els:=tmL a b row k.1,esz:=1,ety:=3,fro:=0,live:=true,arr:=true})]) (fun k=>row.length-k.1) ⟨0,Nat.zero_le _⟩ ?_ ?_
  ·refine Qaj (θ:=[(7,101)]) rfl ?_ ?_
   ·simp [Qac,lkp,ren1,ren0,Qai]
   ·exact⟨⟨rfl,rfl,rfl,rfl,rfl,.inl ⟨rfl,rfl⟩⟩,trivial⟩
  ·rintro⟨k,hk⟩;simp only;by_cases hA:k<row.length
   ·have hA':=lt_T hA;have n0:=nn_T k;have hg:(row.map (PV.int .i64))[k]? =some (.int .i64 row[k]):=by simp [hA]
    have hwk:=wr_1 (n:=k) (by omega);obtain⟨f1,f2⟩:=hrow _ (List.getElem_mem hA);have hm:IntKind.i64.wrap (row[k]*(b-a))=row[k]*(b-a):=by
     have b1: -8388608≤b-a∧b-a≤8388608:=by omega
     have l1:row[k].natAbs*(b-a).natAbs≤100*8388608:=Nat.mul_le_mul (by omega) (by omega);have l2:(row[k]*(b-a)).natAbs=row[k].natAbs*(b-a).natAbs:=Int.natAbs_mul _ _;exact Qag (by omega) (by omega)
    have hlen:=Zl4 (a:=a) (b:=b) hk;have hok:=Zyb a b row k;have hsn:=Znx (a:=a) (b:=b) hA;have k1:((k+1+1)*8≤140737488355328)=True:=eq_true (by omega);have k2:(k+1+1≤maxLen)=True:=eq_true (by unfold maxLen;omega);generalize tmL a b row k=T at*;generalize row[k]=f at*;repeat (first|(simp -implicitDefEqProofs only [go_sem,Nat.reduceAdd,Nat.reduceMul,Nat.reduceEqDiff,Nat.reduceLT,Nat.reduceLeDiff,reduceIte,reduceCtorEq,Nat.reduceBneDiff,hA',n0,hg,hwk,wd,hm,hlen,hok,k1,k2,Int.toNat_natCast]))
    refine⟨⟨k+1,hA⟩,by simp only;omega,?_⟩;refine Qaj (θ:=[(7,607)]) rfl ?_ ?_
    ·simp [Qac,lkp,ren1,ren0,Qai]
    ·exact⟨⟨rfl,rfl,rfl,rfl,rfl,.inl ⟨rfl,hsn.symm⟩⟩,trivial⟩
   ·have hA':=lt_F hA;obtain rfl:k=row.length:=by omega
    have hlen:=Zl4 (a:=a) (b:=b) hk;have htk:(tmL a b row row.length).take (row.length+1)=tmL a b row row.length:=List.take_of_length_le (by omega);generalize tmL a b row row.length=T at*;repeat (first|(simp -implicitDefEqProofs only [go_sem,Nat.reduceAdd,Nat.reduceMul,Nat.reduceEqDiff,Nat.reduceLT,Nat.reduceLeDiff,reduceIte,reduceCtorEq,hA',hlen,htk]))
theorem Qq6 (k:Int):(rowK k).length≤16:=by
 unfold rowK;split
 ·simp
 ·split<;>simp
theorem Qv1 (k:Int): ∀f∈rowK k, -100≤f∧f≤100:=by
 intro f hf;unfold rowK at hf;split at hf
 ·simp at hf;omega
 ·split at hf
  ·simp at hf;omega
  ·simp at hf
def okV (v:V3):Prop:=okC v.x∧okC v.y∧okC v.z
theorem Qyx {v:V3} (h:ptB v=true):okV v:=by
 have:=Qkc.1 h;unfold okV okC;omega
set_option maxRecDepth 100000 in
theorem Zuv (a b:V3) (f t k:Int) (hk:k=0∨k=1∨k=2) (ha:okV a) (hb:okV b):Qaf Tryz.prog 135 [v3PV a,v3PV b,.int .i64 f,.int .i64 t,.int .i64 k] (sgV (legS a b f t k)):=by
 have bl:Nat.blt 100 1000000=true:=rfl;have h1:=Qv0 a.x b.x (rowK k) (Qq6 k) (Qv1 k) ha.1 hb.1;have h2:=Qv0 a.y b.y (rowK k) (Qq6 k) (Qv1 k) ha.2.1 hb.2.1;have h3:=Qv0 a.z b.z (rowK k) (Qq6 k) (Qv1 k) ha.2.2 hb.2.2;have h0:=Zut;unfold Zus at h0;unfold sgV legS v3PV;simp only;generalize Qc5 a.x b.x (rowK k)=L1 at*;generalize Qc5 a.y b.y (rowK k)=L2 at*;generalize Qc5 a.z b.z (rowK k)=L3 at*;rcases hk with rfl|rfl|rfl
 ·have e:(rowK 0).map (PV.int .i64)=[]:=rfl;rw [e]at h1 h2 h3

  refine Qab (tb:=[(100,[],[(100,100)])]) 36 [.cell 10 91] [0,1,2,3,4,5,6,10,11] mixed Tryz.func135 rfl (by kernel_rfl) (by kernel_rfl) (by kernel_rfl) (by kernel_rfl) ?_;repeat (first|(simp -implicitDefEqProofs only [go_sem,Nat.reduceAdd,Nat.reduceMul,Nat.reduceEqDiff,Nat.reduceLT,Nat.reduceLeDiff,reduceCtorEq,Int.reduceEq,Int.reduceNeg,T_m1,T_m2,T_m3,bl,Qqr,Ql5])|((with_reducible refine Qbn h0 ?_ ?_ ?_ ?_);rfl;rfl;rfl)|((with_reducible refine Qaa h1 ?_ ?_ ?_);rfl;rfl)|((with_reducible refine Qaa h2 ?_ ?_ ?_);rfl;rfl)|((with_reducible refine Qaa h3 ?_ ?_ ?_);rfl;rfl)|(with_reducible exact Qae _ _ (by kernel_rfl)))
 ·have e:(rowK 1).map (PV.int .i64)=[.int .i64 1]:=rfl;rw [e]at h1 h2 h3

  refine Qab (tb:=[(100,[],[(100,100)])]) 36 [.cell 10 91] [0,1,2,3,4,5,6,10,11] mixed Tryz.func135 rfl (by kernel_rfl) (by kernel_rfl) (by kernel_rfl) (by kernel_rfl) ?_;repeat (first|(simp -implicitDefEqProofs only [go_sem,Nat.reduceAdd,Nat.reduceMul,Nat.reduceEqDiff,Nat.reduceLT,Nat.reduceLeDiff,reduceCtorEq,Int.reduceEq,Int.reduceNeg,T_m1,T_m2,T_m3,bl,Qqr,Ql5])|((with_reducible refine Qbn h0 ?_ ?_ ?_ ?_);rfl;rfl;rfl)|((with_reducible refine Qaa h1 ?_ ?_ ?_);rfl;rfl)|((with_reducible refine Qaa h2 ?_ ?_ ?_);rfl;rfl)|((with_reducible refine Qaa h3 ?_ ?_ ?_);rfl;rfl)|(with_reducible exact Qae _ _ (by kernel_rfl)))
 ·have e:(rowK 2).map (PV.int .i64)=[.int .i64 0,.int .i64 0,.int .i64 10,.int .i64 (-15),.int .i64 6]:=rfl;rw [e]at h1 h2 h3

  refine Qab (tb:=[(100,[],[(100,100)])]) 36 [.cell 10 91] [0,1,2,3,4,5,6,10,11] mixed Tryz.func135 rfl (by kernel_rfl) (by kernel_rfl) (by kernel_rfl) (by kernel_rfl) ?_;repeat (first|(simp -implicitDefEqProofs only [go_sem,Nat.reduceAdd,Nat.reduceMul,Nat.reduceEqDiff,Nat.reduceLT,Nat.reduceLeDiff,reduceCtorEq,Int.reduceEq,Int.reduceNeg,T_m1,T_m2,T_m3,bl,Qqr,Ql5])|((with_reducible refine Qbn h0 ?_ ?_ ?_ ?_);rfl;rfl;rfl)|((with_reducible refine Qaa h1 ?_ ?_ ?_);rfl;rfl)|((with_reducible refine Qaa h2 ?_ ?_ ?_);rfl;rfl)|((with_reducible refine Qaa h3 ?_ ?_ ?_);rfl;rfl)|(with_reducible exact Qae _ _ (by kernel_rfl)))
end Go.Proofs.YtjlkapdmgjocdaaGreat

namespace Go.Proofs.YtjlkapdmgjocdaaGreat
open Go.Vl Go.RowKit Go.Dg
theorem Qy2 (a b:V3) (f t:Int):Qaf Tryz.prog 114 [v3PV a,v3PV b,.int .i64 f,.int .i64 t] (.bool (Qkd a b f t)):=by
 have h1:=Qf0 a;have h2:=Qf0 b;unfold v3PV at h1 h2 ⊢;unfold Qkd tmB;cases e1:ptB a with
 |false=>
  rw [e1]at h1;refine Qab (tb:=[]) 28 [.tmp 8] [0,1,2,3,4,5,8] mixed Tryz.func114 rfl (by kernel_rfl) (by kernel_rfl) (by kernel_rfl) (by kernel_rfl) ?_;repeat (first|(simp -implicitDefEqProofs only [go_sem,Nat.reduceAdd,Nat.reduceMul,Nat.reduceEqDiff,Nat.reduceLT,Nat.reduceLeDiff,reduceCtorEq,Bool.false_and])|((with_reducible refine Qaa h1 ?_ ?_ ?_);rfl;rfl))
 |true=>
  rw [e1]at h1;cases e2:ptB b with
  |false=>
   rw [e2]at h2;refine Qab (tb:=[]) 28 [.tmp 8] [0,1,2,3,4,5,8] mixed Tryz.func114 rfl (by kernel_rfl) (by kernel_rfl) (by kernel_rfl) (by kernel_rfl) ?_;repeat (first|(simp -implicitDefEqProofs only [go_sem,Nat.reduceAdd,Nat.reduceMul,Nat.reduceEqDiff,Nat.reduceLT,Nat.reduceLeDiff,reduceCtorEq,Bool.false_and,Bool.true_and])|((with_reducible refine Qaa h1 ?_ ?_ ?_);rfl;rfl)|((with_reducible refine Qaa h2 ?_ ?_ ?_);rfl;rfl))
  |true=>
   rw [e2]at h2;by_cases e3:0≤f
   ·have e3':(0≤f)=True:=eq_true e3;by_cases e4:f<t
    ·have e4':(f<t)=True:=eq_true e4;refine Qab (tb:=[]) 28 [.tmp 8] [0,1,2,3,4,5,8] mixed Tryz.func114 rfl (by kernel_rfl) (by kernel_rfl) (by kernel_rfl) (by kernel_rfl) ?_;repeat (first|(simp -implicitDefEqProofs only [go_sem,Nat.reduceAdd,Nat.reduceMul,Nat.reduceEqDiff,Nat.reduceLT,Nat.reduceLeDiff,reduceCtorEq,Bool.true_and,e3',e4',decide_true])|((with_reducible refine Qaa h1 ?_ ?_ ?_);rfl;rfl)|((with_reducible refine Qaa h2 ?_ ?_ ?_);rfl;rfl))
    ·have e4':(f<t)=False:=eq_false e4;refine Qab (tb:=[]) 28 [.tmp 8] [0,1,2,3,4,5,8] mixed Tryz.func114 rfl (by kernel_rfl) (by kernel_rfl) (by kernel_rfl) (by kernel_rfl) ?_;repeat (first|(simp -implicitDefEqProofs only [go_sem,Nat.reduceAdd,Nat.reduceMul,Nat.reduceEqDiff,Nat.reduceLT,Nat.reduceLeDiff,reduceCtorEq,Bool.false_and,Bool.true_and,e3',e4',decide_true,decide_false])|((with_reducible refine Qaa h1 ?_ ?_ ?_);rfl;rfl)|((with_reducible refine Qaa h2 ?_ ?_ ?_);rfl;rfl))
   ·have e3':(0≤f)=False:=eq_false e3;refine Qab (tb:=[]) 28 [.tmp 8] [0,1,2,3,4,5,8] mixed Tryz.func114 rfl (by kernel_rfl) (by kernel_rfl) (by kernel_rfl) (by kernel_rfl) ?_;repeat (first|(simp -implicitDefEqProofs only [go_sem,Nat.reduceAdd,Nat.reduceMul,Nat.reduceEqDiff,Nat.reduceLT,Nat.reduceLeDiff,reduceCtorEq,Bool.false_and,Bool.true_and,e3',decide_false])|((with_reducible refine Qaa h1 ?_ ?_ ?_);rfl;rfl)|((with_reducible refine Qaa h2 ?_ ?_ ?_);rfl;rfl))
theorem Qng {a b:V3} {f t:Int} (h:Qkd a b f t=true):ptB a=true∧ptB b=true∧0≤f∧f<t∧t≤3600000:=by
 unfold Qkd tmB at h;simp only [Bool.and_eq_true,decide_eq_true_eq]at h;exact h
theorem Zu0 (a b:V3) (f t k:Int) (hk:k=0∨k=1∨k=2):Qaf Tryz.prog 113 [v3PV a,v3PV b,.int .i64 f,.int .i64 t,.int .i64 k] (.tup [pV (flyL a b f t k),.int .i64 (flyE a b f t)]):=by
 have h1:=Qy2 a b f t;unfold flyL flyE;cases e1:Qkd a b f t with
 |false=>
  rw [e1]at h1;simp only [Bool.false_eq_true,if_false,pV,List.map_nil];unfold v3PV at h1 ⊢;refine Qab (tb:=[]) 25 [.tmp 10,.tmp 11] [0,1,2,3,4,5,6,10,11,17] mixed Tryz.func113 rfl (by kernel_rfl) (by kernel_rfl) (by kernel_rfl) (by kernel_rfl) ?_;repeat (first|(simp -implicitDefEqProofs only [go_sem,Nat.reduceAdd,Nat.reduceMul,Nat.reduceEqDiff,Nat.reduceLT,Nat.reduceLeDiff,reduceCtorEq,Bool.not_false])|((with_reducible refine Qaa h1 ?_ ?_ ?_);rfl;rfl))
 |true=>
  rw [e1]at h1;obtain⟨p1,p2, -⟩:=Qng e1;have h2:=Zuv a b f t k hk (Qyx p1) (Qyx p2);simp only [if_true,pV,List.map_cons,List.map_nil];unfold v3PV at h1 h2 ⊢;unfold sgV at h2 ⊢;refine Qab (tb:=[]) 25 [.tmp 10,.tmp 11] [0,1,2,3,4,5,6,10,11,17] mixed Tryz.func113 rfl (by kernel_rfl) (by kernel_rfl) (by kernel_rfl) (by kernel_rfl) ?_;repeat (first|(simp -implicitDefEqProofs only [go_sem,Nat.reduceAdd,Nat.reduceMul,Nat.reduceEqDiff,Nat.reduceLT,Nat.reduceLeDiff,reduceIte,reduceCtorEq,Bool.not_true])|((with_reducible refine Qaa h1 ?_ ?_ ?_);rfl;rfl)|((with_reducible refine Qaa h2 ?_ ?_ ?_);rfl;rfl))
theorem Zn3 (a b:V3) (f t:Int):Qaf Tryz.prog 97 [v3PV a,v3PV b,.int .i64 f,.int .i64 t] (.tup [pV (flyL a b f t 2),.int .i64 (flyE a b f t)]):=by
 have h1:=Zu0 a b f t 2 (by simp);unfold v3PV pV at h1 ⊢;refine Qab (tb:=[]) 17 [.tmp 8,.tmp 9] [0,1,2,3,4,5,8,9] mixed Tryz.func97 rfl (by kernel_rfl) (by kernel_rfl) (by kernel_rfl) (by kernel_rfl) ?_;repeat (first|(simp -implicitDefEqProofs only [go_sem,Nat.reduceAdd,Nat.reduceMul,Nat.reduceEqDiff,Nat.reduceLT,Nat.reduceLeDiff,reduceCtorEq])|((with_reducible refine Qaa h1 ?_ ?_ ?_);rfl;rfl))
theorem Q5u (a:V3) (f t:Int):Qaf Tryz.prog 96 [v3PV a,.int .i64 f,.int .i64 t] (.tup [pV (flyL a a f t 0),.int .i64 (flyE a a f t)]):=by
 have h1:=Zu0 a a f t 0 (by simp);unfold v3PV pV at h1 ⊢;refine Qab (tb:=[]) 15 [.tmp 6,.tmp 7] [0,1,2,3,6,7] mixed Tryz.func96 rfl (by kernel_rfl) (by kernel_rfl) (by kernel_rfl) (by kernel_rfl) ?_;repeat (first|(simp -implicitDefEqProofs only [go_sem,Nat.reduceAdd,Nat.reduceMul,Nat.reduceEqDiff,Nat.reduceLT,Nat.reduceLeDiff,reduceCtorEq])|((with_reducible refine Qaa h1 ?_ ?_ ?_);rfl;rfl))
def psV (l:List V3):PV:= .slc (l.map v3PV)
def Q5v (P:List V3) (T:List Int) (i:Nat):Sg:=legS (P.getD i v0) (P.getD (i+1) v0) (T.getD i 0) (T.getD (i+1) 0) 2
def Qth (P:List V3) (T:List Int):List Sg:=(List.range (P.length-1)).map (Q5v P T)
def legO (P:List V3) (T:List Int):List (List PV):=(Qth P T).map fun s=>[sgV s]
theorem Zu1 (P:List V3) (T:List Int):Qaf Tryz.prog 136 [psV P,.slc (T.map (PV.int .i64))] (.fn 144 [] [.rp [psV P],.rp [.slc (T.map (PV.int .i64))]]):=by
 refine Qab (tb:=[]) 6 [.tmp 4] [0,1,2,3,4] mixed Tryz.func136 rfl (by kernel_rfl) (by kernel_rfl) (by kernel_rfl) (by kernel_rfl) ?_;repeat (first|(simp -implicitDefEqProofs only [go_sem,Nat.reduceAdd,Nat.reduceMul,Nat.reduceEqDiff,Nat.reduceLT,Nat.reduceLeDiff,reduceCtorEq,psV]))
theorem Qti (l:List V3) (i:Nat) (h:i<l.length):(l.map v3PV)[i]? =some (.agg [.int .i64 (l.getD i v0).x,.int .i64 (l.getD i v0).y,.int .i64 (l.getD i v0).z]):=by
 rw [List.getElem?_map,List.getElem?_eq_getElem h,List.getD_eq_getElem?_getD,List.getElem?_eq_getElem h];rfl
theorem Q5w (l:List Int) (i:Nat) (h:i<l.length):(l.map (PV.int .i64))[i]? =some (.int .i64 (l.getD i 0)):=by
 rw [List.getElem?_map,List.getElem?_eq_getElem h,List.getD_eq_getElem?_getD,List.getElem?_eq_getElem h];rfl
theorem Zd0 (P:List V3) (T:List Int):(legO P T).length=P.length-1:=by simp [legO,Qth]
theorem Zd1 (P:List V3) (T:List Int) {i:Nat} (h:i<P.length-1):(legO P T)[i]? =some [sgV (Q5v P T i)]:=by
 simp [legO,Qth,h]
set_option maxRecDepth 100000 in
set_option maxHeartbeats 1000000 in
theorem Zn4 (P:List V3) (T:List Int) (hl:P.length≤1000) (hT:T.length=P.length) (hp: ∀i,okV (P.getD i v0)):Qia Tryz.prog 144 [.rp [psV P],.rp [.slc (T.map (PV.int .i64))]] (legO P T):=by
 have hlO:=Zd0 P T;have w0:IntKind.i64.wrap 1=1:=Qag (by decide) (by decide);refine Qj8 (tb:=[]) 33 [0,1,2,4,8,32] mixed Tryz.func144 rfl (by kernel_rfl) (by kernel_rfl) (by kernel_rfl) (by kernel_rfl) fun l stop=> ?_;repeat (first|(simp -implicitDefEqProofs only [go_sem,Nat.reduceAdd,Nat.reduceMul,Nat.reduceEqDiff,Nat.reduceLT,Nat.reduceLeDiff,reduceCtorEq,psV]))
 refine Qar mixed (fun k:{k:Nat // k≤P.length-1∧k≤stop}=>St.ofG [(0,.yld l stop),(1,.rp [psV P]),(2,.rp [.slc (T.map (PV.int .i64))]),(4,.int .i64 ((k.1+1:Nat):Int))] [] ((legO P T).take k.1) (some (l,stop,legO P T))) (fun k=>P.length-k.1) ⟨0,Nat.zero_le _,Nat.zero_le _⟩ ?_ ?_
 ·refine Qa3 ?_;simp [Qac,lkp,ren1,ren0,Qai,psV]
 ·rintro⟨k,hk,hst⟩;simp only;have hlen:((legO P T).take k).length=k:=by rw [List.length_take];omega
  by_cases hA:k+1<P.length
  ·have hA':=lt_T hA;have n0:=nn_T k;have n1:=nn_T (k+1);have g1:=Qti P k (by omega);have g2:=Qti P (k+1) hA;have g3:=Q5w T k (by omega);have g4:=Q5w T (k+1) (by omega);have hwk:=wr_1 (n:=k+1) (by omega);have hwm:IntKind.i64.wrap (((k+1:Nat):Int)-1)=(k:Int):=by rw [Qag (by omega) (by omega)];omega
   have hleg:=Zuv (P.getD k v0) (P.getD (k+1) v0) (T.getD k 0) (T.getD (k+1) 0) 2 (by simp) (hp k) (hp (k+1));have hgt:=Zd1 P T (i:=k) (by omega);have htk:(legO P T).take (k+1)=(legO P T).take k++[[sgV (Q5v P T k)]]:=by
    rw [List.take_add_one,hgt];rfl
   have ee:sgV (legS (P.getD k v0) (P.getD (k+1) v0) (T.getD k 0) (T.getD (k+1) 0) 2)=sgV (Q5v P T k):=rfl;rw [ee]at hleg;generalize Q5v P T k=S at*;generalize legO P T=OO at*;generalize P.getD k v0=va at*;generalize P.getD (k+1) v0=vb at*;generalize T.getD k 0=ta at*;generalize T.getD (k+1) 0=tb at*;unfold v3PV at hleg;unfold sgV at hleg hgt htk;have hst':(k≤stop)=True:=eq_true hst;by_cases hlt:k<stop
   ·have hlt':(k<stop)=True:=eq_true hlt;repeat (first|(simp -implicitDefEqProofs only [go_sem,Nat.reduceAdd,Nat.reduceMul,Nat.reduceEqDiff,Nat.reduceLT,Nat.reduceLeDiff,reduceCtorEq,psV,hA',n0,n1,g1,g2,g3,g4,hwk,hwm,hlen,hgt,hst',hlt',Int.toNat_natCast,List.length_map])|((with_reducible refine Qaa hleg ?_ ?_ ?_);rfl;rfl)|(with_reducible refine And.intro (Qae _ _ (by kernel_rfl)) ?_))
    refine⟨⟨k+1,by omega,hlt⟩,by simp only;omega,?_⟩;simp only [htk];refine Qa3 ?_;simp [Qac,lkp,ren1,ren0,Qai,psV]
   ·have hlt':(k<stop)=False:=eq_false hlt;obtain rfl:k=stop:=by omega
    repeat (first|(simp -implicitDefEqProofs only [go_sem,Nat.reduceAdd,Nat.reduceMul,Nat.reduceEqDiff,Nat.reduceLT,Nat.reduceLeDiff,reduceCtorEq,psV,hA',n0,n1,g1,g2,g3,g4,hwm,hlen,hgt,hst',hlt',Qj6,htk,Int.toNat_natCast,List.length_map])|((with_reducible refine Qaa hleg ?_ ?_ ?_);rfl;rfl)|(with_reducible exact Qae _ _ (by kernel_rfl)))
  ·have hA':=lt_F hA;have e1:((legO P T).take k)=legO P T:=List.take_of_length_le (by omega);have e2:((legO P T).take (stop+1))=legO P T:=List.take_of_length_le (by omega);rw [e1];generalize legO P T=OO at*;repeat (first|(simp -implicitDefEqProofs only [go_sem,Nat.reduceAdd,Nat.reduceMul,Nat.reduceEqDiff,Nat.reduceLT,Nat.reduceLeDiff,reduceCtorEq,psV,hA',Qj6,e2,List.length_map]))
end Go.Proofs.YtjlkapdmgjocdaaGreat

namespace Go.Proofs.YtjlkapdmgjocdaaGreat
open Go.Vl Go.RowKit Go.Dg
theorem Qtm (l:List Sg):(((l.map sgV).flatMap PV.cells).all PV.okCell)=true:=by
 rw [List.all_flatMap,List.all_map,List.all_eq_true];intro _ _;rfl
theorem Q55 (l:List Sg):((l.map sgV).all fun e=>e.cells.length==6&&e.cells.all PV.okCell)=true:=by
 rw [List.all_map,List.all_eq_true];intro _ _;rfl
def tuB (S:List Sg):Nat→List (Nat×Box)
 |0=>[(1000000,{els:=[.nilS],esz:=1,ety:=60,fro:=0,live:=true,arr:=false})]
 |k+1=>[(1000000,{els:=[.bs 7 6 0 (k+1)],esz:=1,ety:=60,fro:=0,live:=true,arr:=false}),(7,{els:=(S.take (k+1)).map sgV,esz:=6,ety:=91,fro:=0,live:=true,arr:=true})]
theorem Zyk (S:List Sg) (k:Nat): ∀b∈ [1000000],(lkp (tuB S k) b).isSome=true:=by
 cases k<;>simp [tuB,lkp]
theorem Zod {S:List Sg} {k:Nat} {x:Sg} (hx:S[k]? =some x):(S.take (k+1)).map sgV=(S.take k).map sgV++[.agg [.int .i64 x.f,.int .i64 x.t,.int .i64 x.o,.slc (x.x.map (PV.int .i64)),.slc (x.y.map (PV.int .i64)),.slc (x.z.map (PV.int .i64))]]:=by
 obtain⟨hk,rfl⟩:=List.getElem?_eq_some_iff.1 hx;rw [Qkk S k hk,List.map_append];rfl
theorem Zoe {S:List Sg} {k:Nat} (h:k≤S.length):((S.take k).map sgV).length=k:=by simp;omega
theorem Zof:(1≤maxLen)=True:=eq_true (by decide)
def Qtn (T:List Int) (k:Nat):Int:=if k=0 then -1 else T.getD (k-1) 0
theorem T_zs:Qaw Tryz.prog 91=some (.agg [.int .i64 0,.int .i64 0,.int .i64 0,.nilS,.nilS,.nilS]):=by kernel_rfl
set_option maxRecDepth 100000 in
set_option maxHeartbeats 2000000 in
theorem Zu8 (P:List V3) (T:List Int) (hl2:2≤P.length) (hl:P.length≤257) (hT:T.length=P.length) (hp: ∀i,i<P.length→ptB (P.getD i v0)=true) (ht: ∀i,i<P.length→Qtn T i<T.getD i 0∧T.getD i 0≤3600000):
  Qaf Tryz.prog 115 [psV P,.slc (T.map (PV.int .i64))] (.tup [pV (Qth P T),.int .i64 0]):=by
 have l1:((P.length:Int)<2)=False:=eq_false (by omega);have l2:((P.length:Int) != (P.length:Int))=false:=by simp
 have l3:((257:Int)<(P.length:Int))=False:=eq_false (by omega);have wm:IntKind.i64.wrap (-1)= -1:=Qag (by decide) (by decide);have hY:=Zn4 P T (by omega) hT (fun i=>by
  by_cases h:i<P.length
  ·exact Qyx (hp i h)
  ·rw [List.getD_eq_getElem?_getD,List.getElem?_eq_none (by omega)];exact Qyx rfl)
 have hL:=Zu1 P T;unfold psV at hL hY;unfold legO at hY;have hSl:(Qth P T).length=P.length-1:=by simp [Qth]
 unfold pV;refine Qab (tb:=[]) 57 [.tmp 4,.tmp 5] [0,1,4,5,6,7,8,9,10,20,21,22,23,24,42,47,50,51] mixed Tryz.func115 rfl (by kernel_rfl) (by kernel_rfl) (by kernel_rfl) (by kernel_rfl) ?_;repeat (first|(simp -implicitDefEqProofs only [go_sem,Nat.reduceAdd,Nat.reduceMul,Nat.reduceEqDiff,Nat.reduceLT,Nat.reduceLeDiff,reduceCtorEq,Int.reduceNeg,psV,l1,l2,hT,List.length_map]))
 refine Qar mixed (fun k:{k:Nat // k≤P.length}=>St.of [(0,.slc (P.map v3PV)),(1,.slc (T.map (PV.int .i64))),(6,.int .i64 (Qtn T k.1)),(21,.slc (T.map (PV.int .i64))),(22,.int .i64 (P.length:Int)),(23,.int .i64 (k.1:Int))] []) (fun k=>P.length-k.1) ⟨0,Nat.zero_le _⟩ ?_ ?_
 ·exact Qa3 (by simp [Qac,lkp,ren1,ren0,Qai,psV,Qtn])
 ·rintro⟨k,hk⟩;simp only;by_cases hA:k<P.length
  ·have hA':=lt_T hA;have n0:=nn_T k;have g1:=Qti P k hA;have g2:=Q5w T k (by omega);have hwk:=wr_1 (n:=k) (by omega);have hpk:=Qf0 (P.getD k v0);rw [hp k hA]at hpk;obtain⟨t1,t2⟩:=ht k hA;have hnx:Qtn T (k+1)=T.getD k 0:=by simp [Qtn]
   have t1':(T.getD k 0≤Qtn T k)=False:=eq_false (by omega);have t2':(3600000<T.getD k 0)=False:=eq_false (by omega);generalize Qtn T k=L at*;generalize P.getD k v0=va at*;generalize T.getD k 0=ta at*;unfold v3PV at hpk;repeat (first|(simp -implicitDefEqProofs only [go_sem,Nat.reduceAdd,Nat.reduceMul,Nat.reduceEqDiff,Nat.reduceLT,Nat.reduceLeDiff,reduceCtorEq,hA',n0,g1,g2,hwk,t1',t2',Int.toNat_natCast,Bool.not_true,decide_false])|((with_reducible refine Qaa hpk ?_ ?_ ?_);rfl;rfl))
   refine⟨⟨k+1,hA⟩,by simp only;omega,?_⟩;simp only [hnx];exact Qa3 (by simp [Qac,lkp,ren1,ren0,Qai])
  ·have hA':=lt_F hA;obtain rfl:k=P.length:=by omega
   repeat (first|(simp -implicitDefEqProofs only [go_sem,Nat.reduceAdd,Nat.reduceMul,Nat.reduceEqDiff,Nat.reduceLT,Nat.reduceLeDiff,reduceCtorEq,hA',l3,List.length_map])|((with_reducible refine Qaa hL ?_ ?_ ?_);rfl;rfl))
   obtain⟨n,hn1⟩: ∃n,P.length-1=n+1:=⟨P.length-2,by omega⟩;generalize Qth P T=S at*;have hSn:S.length=n+1:=by omega
   have hmin:min (S.map fun s=>[sgV s]).length (n+1+1)=n+1:=by rw [List.length_map];omega
   have htk:S.take (n+1)=S:=List.take_of_length_le (by omega);refine Qhd mixed hY rfl rfl _ rfl [(1000000,1300)] [1000000] rfl [(9,.bp 1000000 1 0 0)] (tuB S) rfl rfl ?_ ?_ ?_ (n+1) .normal (fun h=>by simp [hSn]at h) (fun k _ _=>Zyk S k) ?_ rfl ?_
    [(0,1000000),(7,7)] [(9,.bp 0 1 0 0)] [(0,{els:=[.bs 7 6 0 (n+1)],esz:=1,ety:=60,fro:=0,live:=true,arr:=false}),(7,{els:=S.map sgV,esz:=6,ety:=91,fro:=0,live:=true,arr:=true})] rfl rfl ?_ ?_ (fun _=> ?_) (fun h=>by simp [hSn]at h)
   ·simp [Qac,lkp,ren1,ren0,Qai]
   ·exact⟨⟨rfl,rfl,rfl,rfl,rfl,.inr ⟨rfl,_,_,rfl,rfl,rfl,rfl⟩⟩,trivial⟩
   ·simp [Qac,lkp,ren1,ren0,Qai,Qj7]
   ·intro k args h;simp only [List.getElem?_map,Option.map_eq_some_iff]at h;obtain⟨x, -,rfl⟩:=h;rfl
   ·rintro k args hka hk;simp only [List.getElem?_map,Option.map_eq_some_iff]at hka;obtain⟨x,hx,rfl⟩:=hka;have hkl:k<S.length:=(List.getElem?_eq_some_iff.1 hx).1;have hlx:=Zod hx;unfold sgV;cases k with
    |zero=>
     simp only [tuB];have e0:(S.take 0).map sgV=[]:=rfl;rw [e0,List.nil_append]at hlx;repeat (first|(simp -implicitDefEqProofs only [go_sem,Nat.reduceAdd,Nat.reduceMul,Nat.reduceEqDiff,Nat.reduceLT,Nat.reduceLeDiff,reduceIte,reduceCtorEq,T_zs,pvars,List.toList_toArray]))
     refine⟨by simp [lkp],?_⟩;repeat (first|(simp -implicitDefEqProofs only [go_sem,Nat.reduceAdd,Nat.reduceEqDiff,reduceCtorEq,Zof]))
     refine⟨by omega,?_⟩;refine Qaj (θ:=[(1000000,1000000),(7,1603)]) rfl ?_ ?_
     ·simp [Qac,lkp,ren1,ren0,Qai]
     ·simp only [tuB,hlx];exact⟨⟨rfl,rfl,rfl,rfl,rfl,.inr ⟨rfl,_,_,rfl,rfl,rfl,rfl⟩⟩,⟨rfl,rfl,rfl,rfl,rfl,.inl ⟨rfl,rfl⟩⟩,trivial⟩
    |succ k=>
     simp only [tuB];have b1:=Zoe (S:=S) (k:=k+1) (by omega);have b2:((((S.take (k+1)).map sgV).flatMap PV.cells).all PV.okCell)=true:=Qtm _;have c1:((k+1+1)*96≤140737488355328)=True:=eq_true (by omega);have c2:(k+1+1≤maxLen)=True:=eq_true (by unfold maxLen;omega);generalize hTT:(S.take (k+1)).map sgV=TT at*;repeat (first|(simp -implicitDefEqProofs only [go_sem,Nat.reduceAdd,Nat.reduceMul,Nat.reduceEqDiff,Nat.reduceLT,Nat.reduceLeDiff,reduceIte,reduceCtorEq,Nat.reduceBneDiff,T_zs,pvars,List.toList_toArray]))
     refine⟨by simp [lkp],?_⟩;repeat (first|(simp -implicitDefEqProofs only [go_sem,Nat.reduceAdd,Nat.reduceEqDiff,reduceCtorEq,b1,b2,c1,c2]))
     refine⟨by omega,?_⟩;refine Qaj (θ:=[(1000000,1000000),(7,1603)]) rfl ?_ ?_
     ·simp [Qac,lkp,ren1,ren0,Qai]
     ·simp only [tuB,hlx];exact⟨⟨rfl,rfl,rfl,rfl,rfl,.inr ⟨rfl,_,_,rfl,rfl,rfl,rfl⟩⟩,⟨rfl,rfl,rfl,rfl,rfl,.inl ⟨rfl,rfl⟩⟩,trivial⟩
   ·simp [Qac,lkp,ren1,ren0,Qai]
   ·rw [hmin];simp only [tuB];rw [htk];exact⟨⟨rfl,rfl,rfl,rfl,rfl,.inr ⟨rfl,_,_,rfl,rfl,rfl,rfl⟩⟩,⟨rfl,rfl,rfl,rfl,rfl,.inl ⟨rfl,rfl⟩⟩,trivial⟩
   ·have b1:(S.map sgV).length=n+1:=by simp [hSn]
    have b2:(((S.map sgV).flatMap PV.cells).all PV.okCell)=true:=Qtm _;have b3:(S.map sgV).take (n+1)=S.map sgV:=List.take_of_length_le (by omega);generalize S.map sgV=TT at*;repeat (first|(simp -implicitDefEqProofs only [go_sem,Nat.reduceAdd,Nat.reduceMul,Nat.reduceEqDiff,Nat.reduceLT,Nat.reduceLeDiff,reduceIte,reduceCtorEq,b1,b3]))
theorem Q56 (a b:V3) (r f t:Int):Qth [a,up a r,up b r,b] [f,f+(t-f)/4,t-(t-f)/4,t]=arc3 a b r f t:=rfl
set_option maxRecDepth 100000 in
theorem Zyl (a b:V3) (r f t:Int) (hg:Qkd a b f t=true) (h4:(t-f)%4=0) (hr:0≤r∧r≤3600000) (ha:ptB (up a r)=true) (hb:ptB (up b r)=true):
  Qaf Tryz.prog 98 [v3PV a,v3PV b,.int .i64 r,.int .i64 f,.int .i64 t] (.tup [pV (arc3 a b r f t),.int .i64 0]):=by
 obtain⟨p1,p2,g1,g2,g3⟩:=Qng hg;have h1:=Qy2 a b f t;rw [hg]at h1;have h2:=Qf0 (up a r);have h3:=Qf0 (up b r);rw [ha]at h2;rw [hb]at h3;obtain⟨q,hq⟩: ∃q,(t-f)/4=q:=⟨_,rfl⟩;have hq4:t-f=4*q:=by omega
 have i1:=Qkc.1 p1;have i2:=Qkc.1 p2;have i3:=Qkc.1 ha;have i4:=Qkc.1 hb;simp only [up]at i3 i4;have hT:=Zu8 [a,up a r,up b r,b] [f,f+q,t-q,t] (by simp) (by simp) rfl (by
  intro i hi;have:i=0∨i=1∨i=2∨i=3:=by simp at hi;omega
  rcases this with rfl|rfl|rfl|rfl
  ·exact p1
  ·exact ha
  ·exact hb
  ·exact p2) (by
  intro i hi;have:i=0∨i=1∨i=2∨i=3:=by simp at hi;omega
  rcases this with rfl|rfl|rfl|rfl<;>simp [Qtn]<;>omega)
 rw [←hq,Q56]at hT;rw [hq]at hT;have w1:IntKind.i64.wrap (t-f)=t-f:=Qag (by omega) (by omega);have w2:IntKind.i64.wrap ((t-f).tdiv 4)=q:=by
  rw [Int.tdiv_eq_ediv_of_nonneg (by omega),hq];exact Qag (by omega) (by omega)
 have w3:IntKind.i64.wrap (4*q)=t-f:=by rw [←hq4];exact w1
 have w4:IntKind.i64.wrap (a.z+r)=a.z+r:=Qag (by omega) (by omega);have w5:IntKind.i64.wrap (b.z+r)=b.z+r:=Qag (by omega) (by omega);have w6:IntKind.i64.wrap (f+q)=f+q:=Qag (by omega) (by omega);have w7:IntKind.i64.wrap (t-q)=t-q:=Qag (by omega) (by omega);have wn:IntKind.i64.wrap (-2097152)= -2097152:=Qag (by decide) (by decide);have c1:((t-f) != (t-f))=false:=by simp
 have c2:(r< -2097152)=False:=eq_false (by omega);have c3:(2097152<r)=False:=eq_false (by omega);generalize arc3 a b r f t=S at*;unfold pV;unfold psV pV at hT;unfold v3PV up at h2 h3;unfold v3PV at h1 ⊢;simp only [List.map_cons,List.map_nil,v3PV,up]at hT;refine Qab (tb:=[]) 76 [.tmp 10,.tmp 11] [0,1,2,3,4,5,6,10,11,12,13,14,20,38,58] mixed Tryz.func98 rfl (by kernel_rfl) (by kernel_rfl) (by kernel_rfl) (by kernel_rfl) ?_;repeat (first|(simp -implicitDefEqProofs only [go_sem,Nat.reduceAdd,Nat.reduceMul,Nat.reduceEqDiff,Nat.reduceLT,Nat.reduceLeDiff,reduceIte,reduceCtorEq,Int.reduceEq,Int.reduceNeg,w1,w2,w3,w4,w5,w6,w7,c1,c2,c3,Bool.not_true,decide_false])|((with_reducible refine Qaa h1 ?_ ?_ ?_);rfl;rfl)|((with_reducible refine Qaa h2 ?_ ?_ ?_);rfl;rfl)|((with_reducible refine Qaa h3 ?_ ?_ ?_);rfl;rfl)|((with_reducible refine Qaa hT ?_ ?_ ?_);rfl;rfl)|(with_reducible refine And.intro (Qae _ _ (by kernel_rfl)) ?_))
end Go.Proofs.YtjlkapdmgjocdaaGreat

namespace Go.Proofs.YtjlkapdmgjocdaaGreat
open Go.Vl Go.RowKit Go.Dg
def mvV (m:Mv):PV:= .agg [.int .i64 m.to.x,.int .i64 m.to.y,.int .i64 m.to.z,.int .i64 m.w,.int .i64 m.f,.int .i64 m.r]
theorem Zu9:Qcp Tryz.prog 54=some [1,1,1]:=by kernel_rfl
theorem Zym (n m:Int):Qaf Tryz.prog 93 [.int .i64 n,.int .i64 m] (.bool (decide (0≤n)&&decide (n≤m))):=by
 by_cases h:0≤n
 ·have h':(0≤n)=True:=eq_true h;refine Qab (tb:=[]) 12 [.tmp 4] [0,1,4] mixed Tryz.func93 rfl (by kernel_rfl) (by kernel_rfl) (by kernel_rfl) (by kernel_rfl) ?_;repeat (first|(simp -implicitDefEqProofs only [go_sem,Nat.reduceAdd,Nat.reduceMul,Nat.reduceEqDiff,Nat.reduceLT,Nat.reduceLeDiff,reduceCtorEq,h',decide_true,Bool.true_and]))
 ·have h':(0≤n)=False:=eq_false h;refine Qab (tb:=[]) 12 [.tmp 4] [0,1,4] mixed Tryz.func93 rfl (by kernel_rfl) (by kernel_rfl) (by kernel_rfl) (by kernel_rfl) ?_;repeat (first|(simp -implicitDefEqProofs only [go_sem,Nat.reduceAdd,Nat.reduceMul,Nat.reduceEqDiff,Nat.reduceLT,Nat.reduceLeDiff,reduceCtorEq,h',decide_false,Bool.false_and]))
theorem Qpq (n:Int):Qaf Tryz.prog 76 [.int .i64 n] (.bool (tB n)):=by
 have h:=Zym n 3600000;unfold tB;refine Qab (tb:=[]) 5 [.tmp 2] [0,2] mixed Tryz.func76 rfl (by kernel_rfl) (by kernel_rfl) (by kernel_rfl) (by kernel_rfl) ?_;repeat (first|(simp -implicitDefEqProofs only [go_sem,Nat.reduceAdd,Nat.reduceMul,Nat.reduceEqDiff,Nat.reduceLT,Nat.reduceLeDiff,reduceCtorEq])|((with_reducible refine Qaa h ?_ ?_ ?_);rfl;rfl))
theorem Qy6 (v:V3) (r:Int) (hv:ptB v=true) (hr:tB r=true):Qaf Tryz.prog 94 [v3PV v,.int .i64 r] (.bool (hiB v r)):=by
 have i:=Qkc.1 hv;have j:=Qdr.1 hr;have h:=Qf0 (up v r);have w:IntKind.i64.wrap (v.z+r)=v.z+r:=Qag (by omega) (by omega);unfold hiB up;unfold v3PV up at h;unfold v3PV;refine Qab (tb:=[]) 12 [.tmp 4] [0,1,2,4] mixed Tryz.func94 rfl (by kernel_rfl) (by kernel_rfl) (by kernel_rfl) (by kernel_rfl) ?_;repeat (first|(simp -implicitDefEqProofs only [go_sem,Nat.reduceAdd,Nat.reduceMul,Nat.reduceEqDiff,Nat.reduceLT,Nat.reduceLeDiff,reduceCtorEq,w])|((with_reducible refine Qaa h ?_ ?_ ?_);rfl;rfl))
theorem Zyn {a b:V3} (h:a≠b):(a.x==b.x&&(a.y==b.y&&a.z==b.z))=false:=by
 cases e:(a.x==b.x&&(a.y==b.y&&a.z==b.z))with
 |false=>rfl
 |true=>
  simp only [Bool.and_eq_true,beq_iff_eq]at e;exact absurd (by cases a;cases b;simp_all) h
set_option maxRecDepth 100000 in
set_option maxHeartbeats 4000000 in
theorem Zek (v:V3) (m:Mv) (len:Int) (hv:ptB v=true):Qaf Tryz.prog 77 [v3PV v,mvV m,.int .i64 len] (.bool (mvB v m len)):=by
 have h1:=Qf0 m.to;have h2:=Qpq m.w;have h3:=Qpq m.f;have h4:=Qpq m.r;unfold mvB;unfold v3PV at h1 ⊢;unfold mvV;cases e1:ptB m.to with
 |false=>
  rw [e1]at h1;refine Qab (tb:=[]) 72 [.tmp 6] [0,1,2,3,4,6,37,38,51] mixed Tryz.func77 rfl (by kernel_rfl) (by kernel_rfl) (by kernel_rfl) (by kernel_rfl) ?_;repeat (first|(simp -implicitDefEqProofs only [go_sem,Nat.reduceAdd,Nat.reduceMul,Nat.reduceEqDiff,Nat.reduceLT,Nat.reduceLeDiff,reduceCtorEq,Bool.not_false,Bool.false_and])|((with_reducible refine Qaa h1 ?_ ?_ ?_);rfl;rfl))
 |true=>
 rw [e1]at h1;cases e2:tB m.w with
 |false=>
  rw [e2]at h2;refine Qab (tb:=[]) 72 [.tmp 6] [0,1,2,3,4,6,37,38,51] mixed Tryz.func77 rfl (by kernel_rfl) (by kernel_rfl) (by kernel_rfl) (by kernel_rfl) ?_;repeat (first|(simp -implicitDefEqProofs only [go_sem,Nat.reduceAdd,Nat.reduceMul,Nat.reduceEqDiff,Nat.reduceLT,Nat.reduceLeDiff,reduceCtorEq,Bool.not_false,Bool.not_true,Bool.false_and,Bool.true_and])|((with_reducible refine Qaa h1 ?_ ?_ ?_);rfl;rfl)|((with_reducible refine Qaa h2 ?_ ?_ ?_);rfl;rfl))
 |true=>
 rw [e2]at h2;cases e3:tB m.f with
 |false=>
  rw [e3]at h3;refine Qab (tb:=[]) 72 [.tmp 6] [0,1,2,3,4,6,37,38,51] mixed Tryz.func77 rfl (by kernel_rfl) (by kernel_rfl) (by kernel_rfl) (by kernel_rfl) ?_;repeat (first|(simp -implicitDefEqProofs only [go_sem,Nat.reduceAdd,Nat.reduceMul,Nat.reduceEqDiff,Nat.reduceLT,Nat.reduceLeDiff,reduceCtorEq,Bool.not_false,Bool.not_true,Bool.false_and,Bool.true_and])|((with_reducible refine Qaa h1 ?_ ?_ ?_);rfl;rfl)|((with_reducible refine Qaa h2 ?_ ?_ ?_);rfl;rfl)|((with_reducible refine Qaa h3 ?_ ?_ ?_);rfl;rfl))
 |true=>
 rw [e3]at h3;cases e4:tB m.r with
 |false=>
  rw [e4]at h4;refine Qab (tb:=[]) 72 [.tmp 6] [0,1,2,3,4,6,37,38,51] mixed Tryz.func77 rfl (by kernel_rfl) (by kernel_rfl) (by kernel_rfl) (by kernel_rfl) ?_;repeat (first|(simp -implicitDefEqProofs only [go_sem,Nat.reduceAdd,Nat.reduceMul,Nat.reduceEqDiff,Nat.reduceLT,Nat.reduceLeDiff,reduceCtorEq,Bool.not_false,Bool.not_true,Bool.false_and,Bool.true_and])|((with_reducible refine Qaa h1 ?_ ?_ ?_);rfl;rfl)|((with_reducible refine Qaa h2 ?_ ?_ ?_);rfl;rfl)|((with_reducible refine Qaa h3 ?_ ?_ ?_);rfl;rfl)|((with_reducible refine Qaa h4 ?_ ?_ ?_);rfl;rfl))
 |true=>
 rw [e4]at h4;have t2:=Qdr.1 e2;have t3:=Qdr.1 e3;have w:IntKind.i64.wrap (m.w+m.f)=m.w+m.f:=Qag (by omega) (by omega);by_cases e5:m.w+m.f≤len
 case neg=>
  have e5':(len<m.w+m.f)=True:=eq_true (by omega);rw [decide_eq_false e5];refine Qab (tb:=[]) 72 [.tmp 6] [0,1,2,3,4,6,37,38,51] mixed Tryz.func77 rfl (by kernel_rfl) (by kernel_rfl) (by kernel_rfl) (by kernel_rfl) ?_;repeat (first|(simp -implicitDefEqProofs only [go_sem,Nat.reduceAdd,Nat.reduceMul,Nat.reduceEqDiff,Nat.reduceLT,Nat.reduceLeDiff,reduceCtorEq,w,e5',decide_true,Bool.not_true,Bool.false_and,Bool.true_and])|((with_reducible refine Qaa h1 ?_ ?_ ?_);rfl;rfl)|((with_reducible refine Qaa h2 ?_ ?_ ?_);rfl;rfl)|((with_reducible refine Qaa h3 ?_ ?_ ?_);rfl;rfl)|((with_reducible refine Qaa h4 ?_ ?_ ?_);rfl;rfl))
 have e5':(len<m.w+m.f)=False:=eq_false (by omega);rw [decide_eq_true e5];by_cases e6:m.f=0
 ·have e6':(m.f==0)=true:=by simp [e6]
  rw [if_pos e6];by_cases e7:m.to=v
  ·rw [decide_eq_true e7];rw [←e7];have e8:(m.r==0)=decide (m.r=0):=rfl;refine Qab (tb:=[]) 72 [.tmp 6] [0,1,2,3,4,6,37,38,51] mixed Tryz.func77 rfl (by kernel_rfl) (by kernel_rfl) (by kernel_rfl) (by kernel_rfl) ?_;repeat (first|(simp -implicitDefEqProofs only [go_sem,Nat.reduceAdd,Nat.reduceMul,Nat.reduceEqDiff,Nat.reduceLT,Nat.reduceLeDiff,reduceCtorEq,Zu9,w,e5',e6',e8,decide_false,Bool.not_true,Bool.true_and,beq_self_eq_true])|((with_reducible refine Qaa h1 ?_ ?_ ?_);rfl;rfl)|((with_reducible refine Qaa h2 ?_ ?_ ?_);rfl;rfl)|((with_reducible refine Qaa h3 ?_ ?_ ?_);rfl;rfl)|((with_reducible refine Qaa h4 ?_ ?_ ?_);rfl;rfl))
  ·rw [decide_eq_false e7];have e8:=Zyn e7;refine Qab (tb:=[]) 72 [.tmp 6] [0,1,2,3,4,6,37,38,51] mixed Tryz.func77 rfl (by kernel_rfl) (by kernel_rfl) (by kernel_rfl) (by kernel_rfl) ?_;repeat (first|(simp -implicitDefEqProofs only [go_sem,Nat.reduceAdd,Nat.reduceMul,Nat.reduceEqDiff,Nat.reduceLT,Nat.reduceLeDiff,reduceCtorEq,Zu9,w,e5',e6',e8,decide_false,Bool.not_true,Bool.true_and,Bool.false_and])|((with_reducible refine Qaa h1 ?_ ?_ ?_);rfl;rfl)|((with_reducible refine Qaa h2 ?_ ?_ ?_);rfl;rfl)|((with_reducible refine Qaa h3 ?_ ?_ ?_);rfl;rfl)|((with_reducible refine Qaa h4 ?_ ?_ ?_);rfl;rfl))
 ·have e6':(m.f==0)=false:=by simp [e6]
  rw [if_neg e6];by_cases e7:0<m.r
  ·have e7':(0<m.r)=True:=eq_true e7;rw [if_pos e7];have hm:m.f.tmod 4=m.f%4:=Int.tmod_eq_emod_of_nonneg (by omega);have h5:=Qy6 v m.r hv e4;have h6:=Qy6 m.to m.r e1 e4;unfold v3PV at h5 h6;by_cases e8:m.f%4=0
   ·have e8':(m.f%4==0)=true:=by simp [e8]
    rw [decide_eq_true e8];cases e9:hiB v m.r with
    |false=>
     rw [e9]at h5;refine Qab (tb:=[]) 72 [.tmp 6] [0,1,2,3,4,6,37,38,51] mixed Tryz.func77 rfl (by kernel_rfl) (by kernel_rfl) (by kernel_rfl) (by kernel_rfl) ?_;repeat (first|(simp -implicitDefEqProofs only [go_sem,Nat.reduceAdd,Nat.reduceMul,Nat.reduceEqDiff,Nat.reduceLT,Nat.reduceLeDiff,reduceCtorEq,Int.reduceEq,w,e5',e6',e7',hm,e8',decide_false,decide_true,Bool.not_true,Bool.true_and,Bool.false_and])|((with_reducible refine Qaa h1 ?_ ?_ ?_);rfl;rfl)|((with_reducible refine Qaa h2 ?_ ?_ ?_);rfl;rfl)|((with_reducible refine Qaa h3 ?_ ?_ ?_);rfl;rfl)|((with_reducible refine Qaa h4 ?_ ?_ ?_);rfl;rfl)|((with_reducible refine Qaa h5 ?_ ?_ ?_);rfl;rfl))
    |true=>
     rw [e9]at h5;refine Qab (tb:=[]) 72 [.tmp 6] [0,1,2,3,4,6,37,38,51] mixed Tryz.func77 rfl (by kernel_rfl) (by kernel_rfl) (by kernel_rfl) (by kernel_rfl) ?_;repeat (first|(simp -implicitDefEqProofs only [go_sem,Nat.reduceAdd,Nat.reduceMul,Nat.reduceEqDiff,Nat.reduceLT,Nat.reduceLeDiff,reduceCtorEq,Int.reduceEq,w,e5',e6',e7',hm,e8',decide_false,decide_true,Bool.not_true,Bool.true_and])|((with_reducible refine Qaa h1 ?_ ?_ ?_);rfl;rfl)|((with_reducible refine Qaa h2 ?_ ?_ ?_);rfl;rfl)|((with_reducible refine Qaa h3 ?_ ?_ ?_);rfl;rfl)|((with_reducible refine Qaa h4 ?_ ?_ ?_);rfl;rfl)|((with_reducible refine Qaa h5 ?_ ?_ ?_);rfl;rfl)|((with_reducible refine Qaa h6 ?_ ?_ ?_);rfl;rfl))
   ·have e8':(m.f%4==0)=false:=by simp [e8]
    rw [decide_eq_false e8];refine Qab (tb:=[]) 72 [.tmp 6] [0,1,2,3,4,6,37,38,51] mixed Tryz.func77 rfl (by kernel_rfl) (by kernel_rfl) (by kernel_rfl) (by kernel_rfl) ?_;repeat (first|(simp -implicitDefEqProofs only [go_sem,Nat.reduceAdd,Nat.reduceMul,Nat.reduceEqDiff,Nat.reduceLT,Nat.reduceLeDiff,reduceCtorEq,Int.reduceEq,w,e5',e6',e7',hm,e8',decide_false,decide_true,Bool.not_true,Bool.true_and,Bool.false_and])|((with_reducible refine Qaa h1 ?_ ?_ ?_);rfl;rfl)|((with_reducible refine Qaa h2 ?_ ?_ ?_);rfl;rfl)|((with_reducible refine Qaa h3 ?_ ?_ ?_);rfl;rfl)|((with_reducible refine Qaa h4 ?_ ?_ ?_);rfl;rfl))
  ·have e7':(0<m.r)=False:=eq_false e7;rw [if_neg e7];refine Qab (tb:=[]) 72 [.tmp 6] [0,1,2,3,4,6,37,38,51] mixed Tryz.func77 rfl (by kernel_rfl) (by kernel_rfl) (by kernel_rfl) (by kernel_rfl) ?_;repeat (first|(simp -implicitDefEqProofs only [go_sem,Nat.reduceAdd,Nat.reduceMul,Nat.reduceEqDiff,Nat.reduceLT,Nat.reduceLeDiff,reduceCtorEq,w,e5',e6',e7',decide_false,Bool.not_true,Bool.true_and])|((with_reducible refine Qaa h1 ?_ ?_ ?_);rfl;rfl)|((with_reducible refine Qaa h2 ?_ ?_ ?_);rfl;rfl)|((with_reducible refine Qaa h3 ?_ ?_ ?_);rfl;rfl)|((with_reducible refine Qaa h4 ?_ ?_ ?_);rfl;rfl))
theorem Q57 (v:V3) (f t:Int):Qdd Tryz.prog 95 [v3PV v,.int .i64 f,.int .i64 t,.bp 1000000 1 0 0] [(1000000,{els:=[.nilS],esz:=1,ety:=60,fro:=0,live:=true,arr:=false})] (.tup [])
  [(1000000,{els:=[.bs 7 6 0 (Qcv v f t).length],esz:=1,ety:=60,fro:=0,live:=true,arr:=false}),(7,{els:=(Qcv v f t).map sgV,esz:=6,ety:=91,fro:=0,live:=true,arr:=true})]:=by
 have h:=Q5u v f t;have hl:=Qce v v f t 0;have k1:((Qcv v f t).length*96≤140737488355328)=True:=eq_true (by unfold Qcv;omega);have k2:((Qcv v f t).length≤maxLen)=True:=eq_true (by unfold Qcv maxLen;omega);have k3:=Q55 (Qcv v f t);have e:flyL v v f t 0=Qcv v f t:=rfl;rw [e]at h;unfold pV v3PV at h;unfold v3PV;generalize Qcv v f t=S at*;refine Qcz (tb:=[]) 19 [] [0,1,2,3,4,7] mixed Tryz.func95 rfl (by kernel_rfl) (by kernel_rfl) (by kernel_rfl) (by kernel_rfl) (by rfl) ?_;repeat (first|(simp -implicitDefEqProofs only [go_sem,Nat.reduceAdd,Nat.reduceMul,Nat.reduceEqDiff,Nat.reduceLT,Nat.reduceLeDiff,reduceCtorEq,k1,k2,k3,List.length_map])|((with_reducible refine Qaa h ?_ ?_ ?_);rfl;rfl))
 refine Qb9 (.inr rfl) ?_;simp -implicitDefEqProofs only [go_sem];refine Qaj (θ:=[(1000000,1000000),(7,202)]) rfl ?_ ?_
 ·simp [Qac,lkp,ren1,ren0,Qai]
 ·exact⟨⟨rfl,rfl,rfl,rfl,rfl,.inr ⟨rfl,_,_,rfl,rfl,rfl,rfl⟩⟩,⟨rfl,rfl,rfl,rfl,rfl,.inl ⟨rfl,rfl⟩⟩,trivial⟩
theorem Zva (v:V3) (f t:Int) (L:List Sg) (hL:L.length≤1000):Qdd Tryz.prog 95 [v3PV v,.int .i64 f,.int .i64 t,.bp 1000000 1 0 0] [(1000000,{els:=[.bs 1000001 6 0 L.length],esz:=1,ety:=60,fro:=0,live:=true,arr:=false}),(1000001,{els:=L.map sgV,esz:=6,ety:=91,fro:=0,live:=true,arr:=true})] (.tup [])
  [(1000000,{els:=[.bs 8 6 0 (L++Qcv v f t).length],esz:=1,ety:=60,fro:=0,live:=true,arr:=false}),(1000001,{els:=[],esz:=6,ety:=91,fro:=0,live:=false,arr:=true}),(8,{els:=(L++Qcv v f t).map sgV,esz:=6,ety:=91,fro:=0,live:=true,arr:=true})]:=by
 have h:=Q5u v f t;have hl:=Qce v v f t 0;have k1:((L.length+(Qcv v f t).length)*96≤140737488355328)=True:=eq_true (by unfold Qcv;omega);have k2:(L.length+(Qcv v f t).length≤maxLen)=True:=eq_true (by unfold Qcv maxLen;omega);have k3:=Q55 (Qcv v f t);have k4:=Qtm L;have e:flyL v v f t 0=Qcv v f t:=rfl;rw [e]at h;unfold pV v3PV at h;unfold v3PV;rw [List.length_append,List.map_append];generalize Qcv v f t=S at*;refine Qcz (tb:=[]) 19 [] [0,1,2,3,4,7] mixed Tryz.func95 rfl (by kernel_rfl) (by kernel_rfl) (by kernel_rfl) (by kernel_rfl) (by rfl) ?_;repeat (first|(simp -implicitDefEqProofs only [go_sem,Nat.reduceAdd,Nat.reduceMul,Nat.reduceEqDiff,Nat.reduceLT,Nat.reduceLeDiff,reduceCtorEq,k1,k2,k3,k4,List.length_map])|((with_reducible refine Qaa h ?_ ?_ ?_);rfl;rfl))
 refine Qb9 (.inr rfl) ?_;simp -implicitDefEqProofs only [go_sem];refine Qaj (θ:=[(1000000,1000000),(1000001,1000001),(8,202)]) rfl ?_ ?_
 ·simp [Qac,lkp,ren1,ren0,Qai]
 ·exact⟨⟨rfl,rfl,rfl,rfl,rfl,.inr ⟨rfl,_,_,rfl,rfl,rfl,rfl⟩⟩,⟨rfl,rfl,rfl,rfl,rfl,.inl ⟨rfl,rfl⟩⟩,⟨rfl,rfl,rfl,rfl,rfl,.inl ⟨rfl,rfl⟩⟩,trivial⟩
theorem Q58 {v:V3} {m:Mv} {len:Int} (h:mvB v m len=true):ptB m.to=true∧tB m.w=true∧tB m.f=true∧tB m.r=true∧m.w+m.f≤len∧(m.f=0→m.to=v∧m.r=0)∧(m.f≠0→0<m.r→m.f%4=0∧hiB v m.r=true∧hiB m.to m.r=true):=by
 unfold mvB at h;simp only [Bool.and_eq_true,decide_eq_true_eq]at h;obtain⟨h1,h2,h3,h4,h5,h6⟩:=h;refine⟨h1,h2,h3,h4,h5,fun e=> ?_,fun e e2=> ?_⟩
 ·rw [if_pos e]at h6;simpa using h6
 ·rw [if_neg e,if_pos e2]at h6;simpa using h6
set_option maxRecDepth 100000 in
set_option maxHeartbeats 4000000 in
theorem Zvb (v:V3) (m:Mv) (at_ len:Int) (hv:ptB v=true) (hm:mvB v m len=true) (h0:0≤at_) (h1:at_+len≤3600000):Qaf Tryz.prog 78 [v3PV v,mvV m,.int .i64 at_,.int .i64 len] (pV (mvL v m at_ len)):=by
 obtain⟨p1,p2,p3,p4,p5,p6,p7⟩:=Q58 hm;have t2:=Qdr.1 p2;have t3:=Qdr.1 p3;have t4:=Qdr.1 p4;have w1:IntKind.i64.wrap (at_+m.w)=at_+m.w:=Qag (by omega) (by omega);have w2:IntKind.i64.wrap (at_+m.w+m.f)=at_+m.w+m.f:=Qag (by omega) (by omega);have w3:IntKind.i64.wrap (at_+len)=at_+len:=Qag (by omega) (by omega);have bl7:Nat.blt 7 1000000=true:=rfl;have bl8:Nat.blt 8 1000000=true:=rfl;have okl: ∀L:List Sg,(((L.map sgV).flatMap PV.cells).all PV.okCell)=true:=Qtm;unfold pV mvL;by_cases e0:m.f=0
 ·have e0':(m.f==0)=true:=by simp [e0]
  rw [if_pos e0];have s1:=Q57 v at_ (at_+len);have hl:=Qce v v at_ (at_+len) 0;have htk:((Qcv v at_ (at_+len)).map sgV).take (Qcv v at_ (at_+len)).length=(Qcv v at_ (at_+len)).map sgV:=List.take_of_length_le (by simp);have hlm:((Qcv v at_ (at_+len)).map sgV).length=(Qcv v at_ (at_+len)).length:=List.length_map _;generalize Qcv v at_ (at_+len)=S at*;unfold v3PV at s1 ⊢;unfold mvV;have hle:(S.length≤(S.map sgV).length)=True:=eq_true (by simp)

  refine Qab (tb:=[(506,[(1000000,2)],[(7,7)]),(704,[(1000000,2)],[(7,7)]),(1207,[(1000000,2),(1000001,1102)],[(8,8)])]) 74 [.cell 8 60] [0,1,2,3,4,5,8,9,10,11,12,25,50] mixed Tryz.func78 rfl (by kernel_rfl) (by kernel_rfl) (by kernel_rfl) (by kernel_rfl) ?_;repeat (first|(simp -implicitDefEqProofs only [go_sem,Nat.reduceAdd,Nat.reduceMul,Nat.reduceEqDiff,Nat.reduceLT,Nat.reduceLeDiff,reduceIte,reduceCtorEq,w1,w2,w3,e0',bl7,htk,hle])|((with_reducible refine Qbn s1 ?_ ?_ ?_ ?_);rfl;rfl;rfl))
 ·have e0':(m.f==0)=false:=by simp [e0]
  rw [if_neg e0];have s1:=Q57 v at_ (at_+m.w);have g1:=Zn3 v m.to (at_+m.w) (at_+m.w+m.f);have hl1:(Qcv v at_ (at_+m.w)).length≤1:=Qce _ _ _ _ _;have hl2:(midL v m (at_+m.w) (at_+m.w+m.f)).length≤3:=by
   unfold midL;split
   ·simp [arc3]
   ·exact Nat.le_trans (Qce _ _ _ _ _) (by decide)
  have s3:=Zva m.to (at_+m.w+m.f) (at_+len) (Qcv v at_ (at_+m.w)++midL v m (at_+m.w) (at_+m.w+m.f)) (by rw [List.length_append];omega);have hl3:(Qcv m.to (at_+m.w+m.f) (at_+len)).length≤1:=Qce _ _ _ _ _;have hA:0<m.r→Qaf Tryz.prog 98 [v3PV v,v3PV m.to,.int .i64 m.r,.int .i64 (at_+m.w),.int .i64 (at_+m.w+m.f)] (.tup [pV (midL v m (at_+m.w) (at_+m.w+m.f)),.int .i64 0]):=by
   intro hr;obtain⟨q1,q2,q3⟩:=p7 e0 hr;have e:midL v m (at_+m.w) (at_+m.w+m.f)=arc3 v m.to m.r (at_+m.w) (at_+m.w+m.f):=if_pos hr;rw [e];refine Zyl v m.to m.r _ _ ?_ (by omega) t4 q2 q3;unfold Qkd tmB;rw [hv,p1];simp only [Bool.true_and,Bool.and_eq_true,decide_eq_true_eq];omega
  have hG: ¬0<m.r→flyL v m.to (at_+m.w) (at_+m.w+m.f) 2=midL v m (at_+m.w) (at_+m.w+m.f):=fun hr=>(if_neg hr).symm;generalize flyL v m.to (at_+m.w) (at_+m.w+m.f) 2=G0 at*;generalize flyE v m.to (at_+m.w) (at_+m.w+m.f)=E0 at*;generalize Qcv v at_ (at_+m.w)=S at*;generalize midL v m (at_+m.w) (at_+m.w+m.f)=M at*;generalize Qcv m.to (at_+m.w+m.f) (at_+len)=Z at*;simp only [List.length_append,List.map_append]at s3;have k1:((S.length+M.length)*96≤140737488355328)=True:=eq_true (by omega);have k2:(S.length+M.length≤maxLen)=True:=eq_true (by unfold maxLen;omega);have k3:=Q55 M;have k4:=Qtm S;have k5:(S.length+M.length+Z.length≤(S.map sgV++M.map sgV++Z.map sgV).length)=True:=eq_true (by simp;omega);have k6:(S.map sgV++M.map sgV++Z.map sgV).take (S.length+M.length+Z.length)=S.map sgV++M.map sgV++Z.map sgV:=List.take_of_length_le (by simp;omega);have k7:(S.map sgV).length=S.length:=List.length_map _;have k8:(M.map sgV).length=M.length:=List.length_map _;unfold pV at g1 hA;unfold v3PV at s1 s3 g1 hA ⊢;unfold mvV;rw [List.map_append,List.map_append];by_cases hr:0<m.r
  ·have hr':(0<m.r)=True:=eq_true hr;have a1:=hA hr;generalize S.map sgV=SV at*;generalize M.map sgV=MV at*;generalize Z.map sgV=ZV at*

   refine Qab (tb:=[(506,[(1000000,2)],[(7,7)]),(704,[(1000000,2)],[(7,7)]),(1207,[(1000000,2),(1000001,1102)],[(8,8)])]) 74 [.cell 8 60] [0,1,2,3,4,5,8,9,10,11,12,25,50] mixed Tryz.func78 rfl (by kernel_rfl) (by kernel_rfl) (by kernel_rfl) (by kernel_rfl) ?_;repeat (first|(simp -implicitDefEqProofs only [go_sem,Nat.reduceAdd,Nat.reduceMul,Nat.reduceEqDiff,Nat.reduceLT,Nat.reduceLeDiff,reduceIte,reduceCtorEq,w1,w2,w3,e0',hr',bl7,bl8,k1,k2,k3,k4,k5,k6,k7,k8])|((with_reducible refine Qbn s1 ?_ ?_ ?_ ?_);rfl;rfl;rfl)|((with_reducible refine Qaa g1 ?_ ?_ ?_);rfl;rfl)|((with_reducible refine Qaa a1 ?_ ?_ ?_);rfl;rfl)|((with_reducible refine Qbn s3 ?_ ?_ ?_ ?_);rfl;rfl;rfl))
  ·have hr':(0<m.r)=False:=eq_false hr;rw [hG hr]at g1;generalize S.map sgV=SV at*;generalize M.map sgV=MV at*;generalize Z.map sgV=ZV at*

   refine Qab (tb:=[(506,[(1000000,2)],[(7,7)]),(704,[(1000000,2)],[(7,7)]),(1207,[(1000000,2),(1000001,1102)],[(8,8)])]) 74 [.cell 8 60] [0,1,2,3,4,5,8,9,10,11,12,25,50] mixed Tryz.func78 rfl (by kernel_rfl) (by kernel_rfl) (by kernel_rfl) (by kernel_rfl) ?_;repeat (first|(simp -implicitDefEqProofs only [go_sem,Nat.reduceAdd,Nat.reduceMul,Nat.reduceEqDiff,Nat.reduceLT,Nat.reduceLeDiff,reduceIte,reduceCtorEq,w1,w2,w3,e0',hr',bl7,bl8,k1,k2,k3,k4,k5,k6,k7,k8])|((with_reducible refine Qbn s1 ?_ ?_ ?_ ?_);rfl;rfl;rfl)|((with_reducible refine Qaa g1 ?_ ?_ ?_);rfl;rfl)|((with_reducible refine Qbn s3 ?_ ?_ ?_ ?_);rfl;rfl;rfl))
end Go.Proofs.YtjlkapdmgjocdaaGreat
