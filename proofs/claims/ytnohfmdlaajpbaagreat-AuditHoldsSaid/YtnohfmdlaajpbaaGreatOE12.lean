/-
  UAl, OE7, OE8, OE9, UYW, OE10, UX1, OE11, OE12 (merged for the claim).
-/
import Derived.Test.YtnohfmdlaajpbaaGreatUFd
import Derived.Test.YtnohfmdlaajpbaaGreatUYG
import Derived.Test.YtnohfmdlaajpbaaGreatDgm
import Derived.Test.YtnohfmdlaajpbaaGreatULD
import Derived.Test.YtnohfmdlaajpbaaGreatUV
set_option linter.unusedSimpArgs false
set_option linter.unusedVariables false
namespace Go.Vl
open Go.RowKit
theorem Qsy {st:St} (b nb c:Nat) {B Cb:Box} {v v':PV} (hL:Nat.blt nb LENT=true) (hB:st.box b=some B) (ha:B.arr=true) (hmp:B.mp=none) (hn:st.box nb=none) (hC:st.box c=some Cb) (hca:Cb.arr=false) (hce:Cb.els=[v]) (hcb:c≠b)
  (hvl:v'.cells.length=v.cells.length) (hv: ∀(w:World) (im:Im) (ρ:Rho) (us:List Value),ρ nb=ρ b→LRL w im ρ v.cells us→LRL w im ρ v'.cells us):
  Le st (((st.setBox nb B).setBox b {B with els:=[],fro:=0,live:=false}).setBox c {Cb with els:=[v']}):=by
 rintro C a w ⟨ρ,im,h⟩;have hbn:b≠nb:=by rintro rfl;rw [hB]at hn;cases hn
 have hcn:c≠nb:=by rintro rfl;rw [hC]at hn;cases hn
 have hρn:ρ nb=none:=(h.rho nb).2 hn;obtain⟨x,hx⟩: ∃x,ρ b=some x:=by
  cases e:ρ b with
  |none=>rw [(h.rho b).1 e]at hB;cases hB
  |some x=>exact⟨x,rfl⟩
 have hL':nb<LENT:=Nat.le_of_ble_eq_true hL;obtain⟨ρ2,hρ2⟩: ∃ρ2,ρ2=upd ρ nb (ρ b):=⟨_,rfl⟩;have h2n:ρ2 nb=some x:=by rw [hρ2,Qao,hx]
 have h2o: ∀k,k≠nb→ρ2 k=ρ k:=fun k hk=>by rw [hρ2];exact Qal _ _ _ _ hk
 have hext: ∀k y,ρ k=some y→ρ2 k=some y:=fun k y e=>by
  rw [h2o k (by rintro rfl;rw [hρn]at e;cases e)];exact e
 have hown: ∀g,Own ρ2 g→Own ρ g:=by
  rintro g ⟨k,e⟩;by_cases hk:k=nb
  ·subst hk;rw [h2n]at e;cases e;exact⟨b,hx⟩
  ·rw [h2o k hk]at e;exact⟨k,e⟩
 have hnb:(((st.setBox nb B).setBox b {B with els:=[],fro:=0,live:=false}).setBox c {Cb with els:=[v']}).box nb=some B:=by
  simp only [St.setBox,Qal _ _ _ _ (Ne.symm hcn),Qal _ _ _ _ (Ne.symm hbn),Qao]
 have hb2:(((st.setBox nb B).setBox b {B with els:=[],fro:=0,live:=false}).setBox c {Cb with els:=[v']}).box b=some {B with els:=[],fro:=0,live:=false}:=by
  simp only [St.setBox,Qal _ _ _ _ (Ne.symm hcb),Qao]
 have hc2:(((st.setBox nb B).setBox b {B with els:=[],fro:=0,live:=false}).setBox c {Cb with els:=[v']}).box c=some {Cb with els:=[v']}:=by
  simp only [St.setBox,Qao]
 have ho2: ∀k,k≠nb→k≠b→k≠c→(((st.setBox nb B).setBox b {B with els:=[],fro:=0,live:=false}).setBox c {Cb with els:=[v']}).box k=st.box k:=fun k h1 h2 h3=>by
  simp only [St.setBox,Qal _ _ _ _ h1,Qal _ _ _ _ h2,Qal _ _ _ _ h3]
 generalize hst:((st.setBox nb B).setBox b {B with els:=[],fro:=0,live:=false}).setBox c {Cb with els:=[v']}=st2 at*;have hvar:st2.var=st.var:=by rw [←hst];rfl
 have hout:st2.out=st.out:=by rw [←hst];rfl
 have hyl:st2.yl=st.yl:=by rw [←hst];rfl
 refine⟨ρ2,im,?_,h.nt,h.dfr,h.imc,?_,?_,?_,?_⟩
 ·rw [hout,hyl];refine h.step ⟨.refl _ _ _,Keeps.refl _ _,fun g y=> .inl (hown g y),fun _ _ y=>y,fun _ _ y=> .inl y⟩ ?_;intro k y y' hk e1 e2;rw [h2o k (by omega)]at e2;exact h.root.rho0 k y y' hk e1 e2
 ·intro t u hu;rw [hvar]at hu;exact(h.var t u hu).mono (Keeps.refl _ _) (fun _ _ y=>y) hext
 ·intro k;by_cases k1:k=nb
  ·subst k1;rw [h2n,hnb];exact⟨fun e=>(by cases e),fun e=>(by cases e)⟩
  ·rw [h2o k k1];by_cases k2:k=b
   ·subst k2;rw [hx,hb2];exact⟨fun e=>(by cases e),fun e=>(by cases e)⟩
   ·by_cases k3:k=c
    ·subst k3;rw [hc2,h.rho k,hC];exact⟨fun e=>(by cases e),fun e=>(by cases e)⟩
    ·rw [ho2 k k1 k2 k3];exact h.rho k
 ·intro k y D e1 e2;have hbb:=h.box b x B hx hB;by_cases k1:k=nb
  ·subst k1;rw [h2n]at e1;rw [hnb]at e2;cases e1;cases e2;exact hbb.mono (Keeps.refl _ _) (fun _ _ z=>z) (fun _ _ _ _ z=>z) hext fun _ _ _=>rfl
  ·rw [h2o k k1]at e1;by_cases k2:k=b
   ·subst k2;rw [hx]at e1;rw [hb2]at e2;cases e1;cases e2;cases x with
    |none=>obtain⟨z1,z2,z3,z4⟩:=hbb;exact⟨rfl,z2,rfl,z4⟩
    |some g=>
     obtain⟨z1,z2,z3,z4,⟨hmn,cur,us,rest,z5,z6,z7,z8,z9,z10,z11⟩|hm⟩:=hbb
     ·exact⟨z1,Nat.zero_le _,z3,by simp,.inl ⟨hmn,cur,[],cur.toList,z5,rfl,.nil,fun _=> .nil,by simp,by simp,fun q=>(by cases q)⟩⟩
     ·obtain⟨_,_,_,es,_,_,q,_⟩:=hm;rw [hmp]at q;cases q
   ·by_cases k3:k=c
    ·subst k3;rw [hc2]at e2;cases e2;have hcc:=h.box k y Cb e1 hC;cases y with
     |none=>have:=hcc.1;rw [hce]at this;cases this
     |some g=>
      obtain⟨z1,z2,z3,z4,⟨hmn,cur,us,rest,z5,z6,z7,z8,z9,z10,z11⟩|hm⟩:=hcc
      ·rw [hce]at z2 z4 z7;simp only [List.flatMap_cons,List.flatMap_nil,List.append_nil]at z7;refine⟨z1,by simpa using z2,z3,?_,.inl ⟨hmn,cur,us,rest,z5,z6,?_,(by intro q;rw [hca]at q;cases q),z9,z10,z11⟩⟩
       ·intro e he;simp only [List.mem_singleton]at he;subst he;rw [hvl];exact z4 v (by simp)
       ·simp only [List.flatMap_cons,List.flatMap_nil,List.append_nil];exact hv w im ρ2 us (by rw [h2n,h2o b hbn,hx]) (z7.mono (Keeps.refl _ _) (fun _ _ z=>z) hext)
      ·rw [hm.1]at hce;cases hce
    ·rw [ho2 k k1 k2 k3]at e2;exact(h.box k y D e1 e2).mono (Keeps.refl _ _) (fun _ _ z=>z) (fun _ _ _ _ z=>z) hext fun _ _ _=>rfl
 ·have key: ∀k D,st2.box k=some D→D.live=true→k≠b∧(k=nb∧D=B∨k≠nb∧ ∃D0,st.box k=some D0∧D0.live=D.live):=fun k D e l=>by
   by_cases k1:k=nb
   ·subst k1;rw [hnb]at e;cases e;exact⟨Ne.symm hbn,.inl ⟨rfl,rfl⟩⟩
   ·by_cases k2:k=b
    ·subst k2;rw [hb2]at e;cases e;cases l
    ·by_cases k3:k=c
     ·subst k3;rw [hc2]at e;cases e;exact⟨k2,.inr ⟨k1,Cb,hC,rfl⟩⟩
     ·rw [ho2 k k1 k2 k3]at e;exact⟨k2,.inr ⟨k1,D,e,rfl⟩⟩
  intro p q g D E e1 e2 d1 d2 l1 l2;obtain⟨p1,p2⟩:=key p D d1 l1;obtain⟨q1,q2⟩:=key q E d2 l2;rcases p2 with⟨rfl,rfl⟩|⟨p2,D0,p3,p4⟩
  ·rcases q2 with⟨rfl,rfl⟩|⟨q2,E0,q3,q4⟩
   ·rfl
   ·rw [h2n]at e1;rw [h2o q q2]at e2;cases e1;exact absurd (h.inj b q g D E0 hx e2 hB q3 l1 (q4.trans l2)).symm q1
  ·rcases q2 with⟨rfl,rfl⟩|⟨q2,E0,q3,q4⟩
   ·rw [h2n]at e2;rw [h2o p p2]at e1;cases e2;exact absurd (h.inj p b g D0 E e1 hx p3 hB (p4.trans l1) l2) p1
   ·rw [h2o p p2]at e1;rw [h2o q q2]at e2;exact h.inj p q g D0 E0 e1 e2 p3 q3 (p4.trans l1) (q4.trans l2)
theorem Zb9 {vs:List (Nat×PV)} {bs:List (Nat×Box)} {o:List (List PV)} {y:Yl} (b nb c:Nat) {B Cb:Box} {e k l:Nat} (hL:Nat.blt nb LENT=true) (hB:lkp bs b=some B) (ha:B.arr=true) (hmp:B.mp=none) (hn:lkp bs nb=none) (hC:lkp bs c=some Cb) (hca:Cb.arr=false) (hce:Cb.els=[.bs b e k l]) (hcb:c≠b):
  Le (St.ofG vs bs o y) (St.ofG vs ((c,{Cb with els:=[.bs nb e k l]})::(b,{B with els:=[],fro:=0,live:=false})::(nb,B)::bs) o y):=
 Qsy (st:=St.ofG vs bs o y) b nb c hL hB ha hmp hn hC hca hce hcb rfl fun w im ρ us hρ h=>by
  obtain⟨u,rfl,h1⟩:=h.one_inv;refine .cons _ _ _ _ ?_ .nil;rcases h1.bs_inv with⟨q1,⟨x,rfl⟩,rfl,rfl⟩|⟨g,cap,cur,e',hg,rfl,q2,q3,q4,q5⟩
  ·exact .bsNil _ _ x (hρ.trans q1)
  ·exact .bs _ _ _ _ g _ cap cur e' (hρ.trans hg) q2 rfl q3 q4 q5
theorem Zca {vs:List (Nat×PV)} {bs:List (Nat×Box)} {o:List (List PV)} {y:Yl} (b nb c:Nat) {B Cb:Box} {e k l:Nat} (hL:Nat.blt nb LENT=true) (hB:lkp bs b=some B) (ha:B.arr=true) (hmp:B.mp=none) (hn:lkp bs nb=none) (hC:lkp bs c=some Cb) (hca:Cb.arr=false) (hce:Cb.els=[.agg [.bs b e k l]]) (hcb:c≠b):
  Le (St.ofG vs bs o y) (St.ofG vs ((c,{Cb with els:=[.agg [.bs nb e k l]]})::(b,{B with els:=[],fro:=0,live:=false})::(nb,B)::bs) o y):=
 Qsy (st:=St.ofG vs bs o y) b nb c hL hB ha hmp hn hC hca hce hcb rfl fun w im ρ us hρ h=>by
  obtain⟨u,rfl,h1⟩:=h.one_inv;refine .cons _ _ _ _ ?_ .nil;rcases h1.bs_inv with⟨q1,⟨x,rfl⟩,rfl,rfl⟩|⟨g,cap,cur,e',hg,rfl,q2,q3,q4,q5⟩
  ·exact .bsNil _ _ x (hρ.trans q1)
  ·exact .bs _ _ _ _ g _ cap cur e' (hρ.trans hg) q2 rfl q3 q4 q5
theorem Zmo {st:St} {b nb esz:Nat} {ety:TypeId} {B:Box} (hL:Nat.blt nb LENT=true) (hB:st.box b=some B) (ha:B.arr=false) (he:B.els=[.nilS]) (hn:st.box nb=none) (hz:0<esz):
  Le st ((st.setBox nb {els:=[],esz:=esz,ety:=ety,fro:=0,live:=true,arr:=true}).setBox b {B with els:=[.bs nb esz 0 0]}):=by
 rintro C a w ⟨ρ,im,h⟩;have hbn:b≠nb:=by rintro rfl;rw [hB]at hn;cases hn
 obtain⟨h1,h2⟩:=h.addBox ⟨.refl _ _ _,Keeps.refl _ _,fun _ x=> .inl x,fun _ _ x=>x,fun _ _ x=> .inl x⟩ h (Nat.le_of_ble_eq_true hL) hn {els:=[],esz:=esz,ety:=ety,fro:=0,live:=true,arr:=true} none (by intro g e;cases e) ⟨rfl,rfl,rfl,hz⟩ (by intro b' g B' e;cases e);have hB1:(st.setBox nb {els:=[],esz:=esz,ety:=ety,fro:=0,live:=true,arr:=true}).box b=some B:=by simp [St.setBox,Qal _ _ _ _ hbn,hB]
 generalize hst:st.setBox nb {els:=[],esz:=esz,ety:=ety,fro:=0,live:=true,arr:=true}=st1 at*;refine⟨upd ρ nb (some none),im,h1.root,h1.nt,h1.dfr,h1.imc,h1.var,?_,?_,?_⟩
 ·intro b';by_cases e:b'=b
  ·subst e;simp [St.setBox,Qao,h1.rho b',hB1]
  ·simp [St.setBox,Qal _ _ _ _ e,h1.rho b']
 ·intro b' x B' hx hB';by_cases e:b'=b
  ·subst e;simp only [St.setBox,Qao,Option.some.injEq]at hB';subst hB';have hb:=h1.box b' x B hx hB1;cases x with
   |none=>obtain⟨z1,_⟩:=hb;rw [he]at z1;cases z1
   |some g=>
    obtain⟨k1,k2,k3,k4,⟨hmn,cur,us,rest,k5,k6,k7,k8,k9,k10,k11⟩|hm⟩:=hb
    case inr=>rw [hm.1]at he;cases he
    rw [he]at k2 k4 k7;simp only [List.flatMap_cons,List.flatMap_nil,List.append_nil]at k7;refine⟨k1,by simpa using k2,k3,?_,.inl ⟨hmn,cur,us,rest,k5,k6,?_,(by intro q;rw [ha]at q;cases q),k9,k10,k11⟩⟩
    ·intro e he';simp only [List.mem_singleton]at he';subst he';have:=k4 .nilS (by simp);simpa [PV.cells]using this
    ·simp only [List.flatMap_cons,List.flatMap_nil,List.append_nil];obtain⟨u,rfl,hu⟩:=k7.one_inv;rw [hu.nilS_inv];exact .cons _ _ _ _ (.bsNil nb esz none (Qao _ _ _)) .nil
  ·simp only [St.setBox,Qal _ _ _ _ e]at hB';exact h1.box b' x B' hx hB'
 ·have key: ∀b' B',(st1.setBox b {B with els:=[.bs nb esz 0 0]}).box b'=some B'→ ∃B0,st1.box b'=some B0∧B0.live=B'.live:=fun b' B' e=>by
   by_cases y:b'=b
   ·subst y;simp only [St.setBox,Qao,Option.some.injEq]at e;subst e;exact⟨B,hB1,rfl⟩
   ·exact⟨B',by simpa only [St.setBox,Qal _ _ _ _ y]using e,rfl⟩
  intro b1 b2 g B1 B2 g1 g2 e1 e2 l1 l2;obtain⟨C1,x1,y1⟩:=key _ _ e1;obtain⟨C2,x2,y2⟩:=key _ _ e2;exact h1.inj b1 b2 g C1 C2 g1 g2 x1 x2 (y1.trans l1) (y2.trans l2)
theorem Qqr {vs:List (Nat×PV)} {bs:List (Nat×Box)} {o:List (List PV)} {y:Yl} (b nb esz:Nat) (ety:TypeId) {B:Box} (hL:Nat.blt nb LENT=true) (hB:lkp bs b=some B) (ha:B.arr=false) (he:B.els=[.nilS]) (hn:lkp bs nb=none) (hz:0<esz):
  Le (St.ofG vs bs o y) (St.ofG vs ((b,{B with els:=[.bs nb esz 0 0]})::(nb,{els:=[],esz:=esz,ety:=ety,fro:=0,live:=true,arr:=true})::bs) o y):=Zmo (st:=St.ofG vs bs o y) hL hB ha he hn hz
theorem Z0c {vs:List (Nat×PV)} {bs bs1:List (Nat×Box)} {o:List (List PV)} {y:Yl} (t:Nat) {v v':PV} {es:List Eff} {l:Acc} (ht:lkp vs t=some v) (he:escC v (lkp bs)=some ((v',es),l)) (he1:Qan es (St.ofG vs bs o y)=St.ofG vs bs1 o y):
  Le (St.ofG vs bs o y) (St.ofG ((t,v')::vs) bs1 o y):=by
 rintro C a w ⟨ρ,im,h⟩;obtain⟨im2,g1,r1⟩:=Qjd h (Qet _) (h.var t v ht) he;have h1:=g1.rel;rw [he1]at h1;refine⟨ρ,im2,h1.root,h1.nt,h1.dfr,h1.imc,?_,h1.rho,h1.box,h1.inj⟩;intro t' u hu;by_cases e:t'=t
 ·subst e;simp only [Qzd,lkp,if_true,Option.some.injEq]at hu;subst hu;exact .ext _ _ r1
 ·simp only [Qzd,lkp,if_neg e]at hu;exact h1.var t' u hu
theorem Qi1 {P:Program} {tb:Tab} {nt:Nat} {ks:List Nat} {K:List It} {Q:Exit→St→Prop} {g:Operand} {ps:Array Tmp} {assign body:Code} {st st':St} (hl:Le st st') (h:go P tb nt ks (.code (.rangeFunc g ps assign body)::K) Q st'):
  go P tb nt ks (.code (.rangeFunc g ps assign body)::K) Q st:=by
 simp only [go,vx]at h ⊢;exact Zo5 h hl
end Go.Vl

namespace Go.Proofs.YtnohfmdlaajpbaaGreat
open Go.Vl Go.RowKit Go.Dg
abbrev lgB (nm n:Nat):Box:={els:=[.agg [.bs nm 13 0 n]],esz:=1,ety:=114,fro:=0,live:=true,arr:=false}
abbrev rcB (L:List Rc):Box:={els:=L.map rcV,esz:=13,ety:=60,fro:=0,live:=true,arr:=true}
abbrev rcD:Box:={els:=[],esz:=13,ety:=60,fro:=0,live:=false,arr:=true}
abbrev lgL (L:List Rc):List (Nat×Box):=[(1000000,lgB 1000001 L.length),(1000001,rcB L)]
theorem Zok (L:List Rc):(((L.map rcV).flatMap PV.cells).all PV.okCell)=true:=by
 rw [List.all_flatMap,List.all_map,List.all_eq_true];intro _ _;rfl
theorem Qga (L:List Rc) (i:Nat) (h:i<L.length):(L.map rcV)[i]? =some (.agg [.int .i64 (L.getD i rc0).t,.int .i64 (L.getD i rc0).a,.int .i64 (L.getD i rc0).k,.int .i64 (L.getD i rc0).v.x,.int .i64 (L.getD i rc0).v.y,.int .i64 (L.getD i rc0).v.z,.int .i64 (L.getD i rc0).s,.int .i64 (L.getD i rc0).fk,.int .i64 (L.getD i rc0).ff,.int .i64 (L.getD i rc0).ft,.int .i64 (L.getD i rc0).fs,.slc [],.int .u32 (L.getD i rc0).u]):=by
 rw [List.getElem?_map,List.getElem?_eq_getElem h,List.getD_eq_getElem?_getD,List.getElem?_eq_getElem h];rfl
theorem bl13:Nat.ble 1000000 1000000=true:=rfl
theorem bl14:Nat.ble 1000000 1000001=true:=rfl
set_option maxRecDepth 100000 in
theorem Q5w (L:List Rc) (r:Rc) (hl:L.length≤100000):Qbv Tryz.prog 42 [.bp 1000000 1 0 0,rcV r] (lgL L) (.int .i64 (mayE L r)) (lgL L):=by
 have f:=Zob r;unfold mayE;cases e:recB r with
 |false=>
  rw [e]at f;unfold rcV at f ⊢;refine Qbc (tb:=[]) 30 [.tmp 4] [0,1,3,4,5,8,29] mixed Tryz.func42 rfl (by kernel_rfl) (by kernel_rfl) (by kernel_rfl) (by kernel_rfl) (by rfl) ?_;repeat (first|simp -implicitDefEqProofs only [go_sem,seval,Bool.not_false,lgL]|(with_reducible refine Qaa f ?_ ?_ ?_);rfl;rfl)
  refine Qa2 (.inl rfl) ?_;simp -implicitDefEqProofs only [go_sem,seval];refine Qaj (θ:=[(1000000,1000000),(1000001,1000001)]) rfl ?_ ?_
  ·simp [Qac,lkp,ren1,ren0,Qah]
  ·exact⟨⟨rfl,rfl,rfl,rfl,rfl,.inr ⟨rfl,_,_,rfl,rfl,rfl,rfl⟩⟩,⟨rfl,rfl,rfl,rfl,rfl,.inl ⟨rfl,rfl⟩⟩,trivial⟩
 |true=>
  rw [e]at f;rw [if_pos rfl];cases hn:L.length with
  |zero=>
   have c1:=eq_false (show¬(0:Int)<((0:Nat):Int)by omega);unfold lgL;rw [hn];unfold rcV at f ⊢;refine Qbc (tb:=[]) 30 [.tmp 4] [0,1,3,4,5,8,29] mixed Tryz.func42 rfl (by kernel_rfl) (by kernel_rfl) (by kernel_rfl) (by kernel_rfl) (by rfl) ?_;repeat (first|simp -implicitDefEqProofs only [go_sem,seval,Bool.not_true,c1,decide_false]|(with_reducible refine Qaa f ?_ ?_ ?_);rfl;rfl|(with_reducible refine And.intro (Qad _ _ (by kernel_rfl)) ?_))
   refine Qa2 (.inl rfl) ?_;simp -implicitDefEqProofs only [go_sem,seval];refine Qaj (θ:=[(1000000,1000000),(1000001,1000001)]) rfl ?_ ?_
   ·simp [Qac,lkp,ren1,ren0,Qah]
   ·exact⟨⟨rfl,rfl,rfl,rfl,rfl,.inr ⟨rfl,_,_,rfl,rfl,rfl,rfl⟩⟩,⟨rfl,rfl,rfl,rfl,rfl,.inl ⟨rfl,rfl⟩⟩,trivial⟩
  |succ m=>
   have c1:=eq_true (show(0:Int)<((m+1:Nat):Int)by omega);have w1:IntKind.i64.wrap (((m+1:Nat):Int)-1)=(m:Int):=by rw [Qag (by omega) (by omega)];omega
   have n0:=nnE m;have c2:=eq_true (show(m:Int)<((m+1:Nat):Int)by omega);have hg:=Qga L m (by omega);have hT:lastT L=(L.getD m rc0).t:=by unfold lastT;rw [hn];rfl
   rw [if_neg (by omega),hT];unfold lgL;rw [hn];generalize L.getD m rc0=q at*;by_cases ht:r.t<q.t
   ·have ht':=eq_true ht;rw [if_pos ht];unfold rcV at f ⊢;refine Qbc (tb:=[]) 30 [.tmp 4] [0,1,3,4,5,8,29] mixed Tryz.func42 rfl (by kernel_rfl) (by kernel_rfl) (by kernel_rfl) (by kernel_rfl) (by rfl) ?_;repeat (first|simp -implicitDefEqProofs only [go_sem,seval,Bool.not_true,c1,c2,w1,n0,hg,ht',decide_true,Int.toNat_natCast]|(with_reducible refine Qaa f ?_ ?_ ?_);rfl;rfl|(with_reducible refine And.intro (Qad _ _ (by kernel_rfl)) ?_))
    refine Qa2 (.inl rfl) ?_;simp -implicitDefEqProofs only [go_sem,seval];refine Qaj (θ:=[(1000000,1000000),(1000001,1000001)]) rfl ?_ ?_
    ·simp [Qac,lkp,ren1,ren0,Qah]
    ·exact⟨⟨rfl,rfl,rfl,rfl,rfl,.inr ⟨rfl,_,_,rfl,rfl,rfl,rfl⟩⟩,⟨rfl,rfl,rfl,rfl,rfl,.inl ⟨rfl,rfl⟩⟩,trivial⟩
   ·have ht':=eq_false ht;rw [if_neg ht];unfold rcV at f ⊢;refine Qbc (tb:=[]) 30 [.tmp 4] [0,1,3,4,5,8,29] mixed Tryz.func42 rfl (by kernel_rfl) (by kernel_rfl) (by kernel_rfl) (by kernel_rfl) (by rfl) ?_;repeat (first|simp -implicitDefEqProofs only [go_sem,seval,Bool.not_true,c1,c2,w1,n0,hg,ht',decide_true,decide_false,Int.toNat_natCast]|(with_reducible refine Qaa f ?_ ?_ ?_);rfl;rfl|(with_reducible refine And.intro (Qad _ _ (by kernel_rfl)) ?_))
    refine Qa2 (.inl rfl) ?_;simp -implicitDefEqProofs only [go_sem,seval];refine Qaj (θ:=[(1000000,1000000),(1000001,1000001)]) rfl ?_ ?_
    ·simp [Qac,lkp,ren1,ren0,Qah]
    ·exact⟨⟨rfl,rfl,rfl,rfl,rfl,.inr ⟨rfl,_,_,rfl,rfl,rfl,rfl⟩⟩,⟨rfl,rfl,rfl,rfl,rfl,.inl ⟨rfl,rfl⟩⟩,trivial⟩
theorem Zxw (L:List Rc):Qbv Tryz.prog 73 [.bp 1000000 1 0 0] (lgL L) (.int .i64 (L.length:Int)) (lgL L):=by
 refine Qbc (tb:=[]) 10 [.tmp 2] [0,2,4] mixed Tryz.func73 rfl (by kernel_rfl) (by kernel_rfl) (by kernel_rfl) (by kernel_rfl) (by rfl) ?_;repeat simp -implicitDefEqProofs only [go_sem,seval,lgL]
 refine Qa2 (.inl rfl) ?_;simp -implicitDefEqProofs only [go_sem,seval];refine Qaj (θ:=[(1000000,1000000),(1000001,1000001)]) rfl ?_ ?_
 ·simp [Qac,lkp,ren1,ren0,Qah]
 ·exact⟨⟨rfl,rfl,rfl,rfl,rfl,.inr ⟨rfl,_,_,rfl,rfl,rfl,rfl⟩⟩,⟨rfl,rfl,rfl,rfl,rfl,.inl ⟨rfl,rfl⟩⟩,trivial⟩
set_option maxRecDepth 100000 in
theorem Qya (L:List Rc) (hl:L.length≤100000):Qbv Tryz.prog 44 [.bp 1000000 1 0 0] (lgL L) (.int .u32 (endU L)) (lgL L):=by
 have h:=Zxw L;unfold endU;cases hn:L.length with
 |zero=>
  have c1:(((0:Nat):Int)==0)=true:=rfl;unfold lgL at h ⊢;rw [hn]at h ⊢;rw [if_pos rfl]

  refine Qbc (tb:=[(101,[(1000000,1000000),(1000001,1000001)],[])]) 19 [.tmp 2] [0,2,5] mixed Tryz.func44 rfl (by kernel_rfl) (by kernel_rfl) (by kernel_rfl) (by kernel_rfl) (by rfl) ?_;repeat (first|simp -implicitDefEqProofs only [go_sem,seval,c1,bl13,bl14]|(with_reducible refine Qai h ?_ ?_ ?_ ?_);rfl;rfl;rfl)
  refine Qa2 (.inl rfl) ?_;simp -implicitDefEqProofs only [go_sem,seval];refine Qaj (θ:=[(1000000,1000000),(1000001,1000001)]) rfl ?_ ?_
  ·simp [Qac,lkp,ren1,ren0,Qah]
  ·exact⟨⟨rfl,rfl,rfl,rfl,rfl,.inr ⟨rfl,_,_,rfl,rfl,rfl,rfl⟩⟩,⟨rfl,rfl,rfl,rfl,rfl,.inl ⟨rfl,rfl⟩⟩,trivial⟩
 |succ m=>
  have c1:(((m+1:Nat):Int)==0)=false:=beq_eq_false_iff_ne.2 (by omega);have w1:IntKind.i64.wrap (((m+1:Nat):Int)-1)=(m:Int):=by rw [Qag (by omega) (by omega)];omega
  have n0:=nnE m;have c2:=eq_true (show(m:Int)<((m+1:Nat):Int)by omega);have hg:=Qga L m (by omega);rw [if_neg (by omega),show m+1-1=m from rfl];unfold lgL at h ⊢;rw [hn]at h ⊢;generalize L.getD m rc0=q at*

  refine Qbc (tb:=[(101,[(1000000,1000000),(1000001,1000001)],[])]) 19 [.tmp 2] [0,2,5] mixed Tryz.func44 rfl (by kernel_rfl) (by kernel_rfl) (by kernel_rfl) (by kernel_rfl) (by rfl) ?_;repeat (first|simp -implicitDefEqProofs only [go_sem,seval,c1,c2,w1,n0,hg,decide_true,bl13,bl14,Int.toNat_natCast]|(with_reducible refine Qai h ?_ ?_ ?_ ?_);rfl;rfl;rfl|(with_reducible refine And.intro (Qad _ _ (by kernel_rfl)) ?_))
  refine Qa2 (.inl rfl) ?_;simp -implicitDefEqProofs only [go_sem,seval];refine Qaj (θ:=[(1000000,1000000),(1000001,1000001)]) rfl ?_ ?_
  ·simp [Qac,lkp,ren1,ren0,Qah]
  ·exact⟨⟨rfl,rfl,rfl,rfl,rfl,.inr ⟨rfl,_,_,rfl,rfl,rfl,rfl⟩⟩,⟨rfl,rfl,rfl,rfl,rfl,.inl ⟨rfl,rfl⟩⟩,trivial⟩
theorem Qz8:Qbv Tryz.prog 27 [] [] (.bp 7 1 0 0) [(7,lgB 8 0),(8,rcB [])]:=by
 refine Qbc (tb:=[]) 3 [.tmp 0] [0] mixed Tryz.func27 rfl (by kernel_rfl) (by kernel_rfl) (by kernel_rfl) (by kernel_rfl) (by rfl) ?_;repeat simp -implicitDefEqProofs only [go_sem,seval]
 refine Qa2 (.inl rfl) ?_;simp -implicitDefEqProofs only [go_sem];refine Le.trans (Znx 101 0 8 13 60 rfl rfl rfl rfl rfl rfl (by decide)) ?_;refine Qaj (θ:=[(7,101),(8,8)]) rfl ?_ ?_
 ·simp [Qac,lkp,ren1,ren0,Qah]
 ·exact⟨⟨rfl,rfl,rfl,rfl,rfl,.inr ⟨rfl,_,_,rfl,rfl,rfl,rfl⟩⟩,⟨rfl,rfl,rfl,rfl,rfl,.inl ⟨rfl,rfl⟩⟩,trivial⟩
abbrev lgG (L:List Rc):List (Nat×Box):=[(1000000,lgB 9 L.length),(1000001,rcD),(9,rcB L)]
set_option maxRecDepth 100000 in
set_option maxHeartbeats 4000000 in
theorem Zxx (L:List Rc) (r:Rc) (hl:L.length<10000) (hm:mayE L r≠0):Qbv Tryz.prog 45 [.bp 1000000 1 0 0,rcV r] (lgL L) (.int .i64 (mayE L r)) (lgG L):=by
 have h:=Q5w L r (by omega);have c1:(mayE L r != 0)=true:=by simpa using hm
 generalize mayE L r=e at*;unfold rcV at h ⊢

 refine Qbc (tb:=[(302,[(1000000,1000000),(1000001,1000001)],[]),(901,[(1000000,1000000),(1000001,1000001)],[])]) 40 [.tmp 4] [0,1,3,4,5,7,12,19] mixed Tryz.func45 rfl (by kernel_rfl) (by kernel_rfl) (by kernel_rfl) (by kernel_rfl) (by rfl) ?_;repeat (first|simp -implicitDefEqProofs only [go_sem,seval,lgL,c1,bl13,bl14]|(with_reducible refine Qai h ?_ ?_ ?_ ?_);rfl;rfl;rfl)
 refine Qa2 (.inl rfl) ?_;simp -implicitDefEqProofs only [go_sem,seval];refine Le.trans (Zca 1000001 9 1000000 rfl rfl rfl rfl rfl rfl rfl rfl (by decide)) ?_;refine Qaj (θ:=[(1000000,1000000),(1000001,1000001),(9,9)]) rfl ?_ ?_
 ·simp [Qac,lkp,ren1,ren0,Qah]
 ·exact⟨⟨rfl,rfl,rfl,rfl,rfl,.inr ⟨rfl,_,_,rfl,rfl,rfl,rfl⟩⟩,⟨rfl,rfl,rfl,rfl,rfl,.inl ⟨rfl,rfl⟩⟩,⟨rfl,rfl,rfl,rfl,rfl,.inl ⟨rfl,rfl⟩⟩,trivial⟩
set_option maxRecDepth 100000 in
set_option maxHeartbeats 4000000 in
theorem Zxy (L:List Rc) (r:Rc) (hl:L.length<10000) (hm:mayE L r=0):Qbv Tryz.prog 45 [.bp 1000000 1 0 0,rcV r] (lgL L) (.int .i64 0) (lgG (L++[sumR sumU L r])):=by
 have h:=Q5w L r (by omega);rw [hm]at h;have hf:recB r=true:=by
  unfold mayE at hm;split at hm
  ·assumption
  ·cases hm
 have ho:=Zn9 r;have he:=Qya L (by omega);have hs:=Zew (endU L) r hf;have c1:=eq_false (show¬(10000:Int)≤(L.length:Int)by omega);have hlt:(L.map rcV).length=L.length:=List.length_map ..;have hok:=Zok L;have k1:((L.length+1)*120≤140737488355328)=True:=eq_true (by omega);have k2:(L.length+1≤maxLen)=True:=eq_true (by unfold maxLen;omega);have hts:(L++[sumR sumU L r]).map rcV=L.map rcV++[.agg [.int .i64 r.t,.int .i64 r.a,.int .i64 r.k,.int .i64 r.v.x,.int .i64 r.v.y,.int .i64 r.v.z,.int .i64 r.s,.int .i64 r.fk,.int .i64 r.ff,.int .i64 r.ft,.int .i64 r.fs,.slc [],.int .u32 (sumU (endU L) r)]]:=by rw [List.map_append];rfl
 have hll:(L++[sumR sumU L r]).length=L.length+1:=by simp
 unfold lgG rcB;rw [hll,hts];generalize sumU (endU L) r=su at*;generalize endU L=en at*;unfold lgL rcB at h he ⊢;generalize L.map rcV=T at*;unfold rcV at*

 refine Qbc (tb:=[(302,[(1000000,1000000),(1000001,1000001)],[]),(901,[(1000000,1000000),(1000001,1000001)],[])]) 40 [.tmp 4] [0,1,3,4,5,7,12,19] mixed Tryz.func45 rfl (by kernel_rfl) (by kernel_rfl) (by kernel_rfl) (by kernel_rfl) (by rfl) ?_;repeat (first|simp -implicitDefEqProofs only [go_sem,seval,c1,hlt,hok,k1,k2,bl13,bl14,bne_self_eq_false]|(with_reducible refine Qai h ?_ ?_ ?_ ?_);rfl;rfl;rfl|(with_reducible refine Qaa ho ?_ ?_ ?_);rfl;rfl|(with_reducible refine Qai he ?_ ?_ ?_ ?_);rfl;rfl;rfl|(with_reducible refine Qaa hs ?_ ?_ ?_);rfl;rfl|(with_reducible refine And.intro (Qad _ _ (by kernel_rfl)) ?_))
 refine Qa2 (.inl rfl) ?_;simp -implicitDefEqProofs only [go_sem,seval];refine Qaj (θ:=[(1000000,1000000),(1000001,1000001),(9,1007)]) rfl ?_ ?_
 ·simp [Qac,lkp,ren1,ren0,Qah]
 ·exact⟨⟨rfl,rfl,rfl,rfl,rfl,.inr ⟨rfl,_,_,rfl,rfl,rfl,rfl⟩⟩,⟨rfl,rfl,rfl,rfl,rfl,.inl ⟨rfl,rfl⟩⟩,⟨rfl,rfl,rfl,rfl,rfl,.inl ⟨rfl,rfl⟩⟩,trivial⟩
theorem Q5x (L:List Rc) (r:Rc) (hl:L.length<10000):Qbv Tryz.prog 45 [.bp 1000000 1 0 0,rcV r] (lgL L) (.int .i64 (addE L r)) (lgG (addL sumU L r)):=by
 unfold addE addL;by_cases hm:mayE L r=0
 ·rw [if_pos hm,if_pos hl,if_pos ⟨hm,hl⟩];exact Zxy L r hl hm
 ·rw [if_neg hm,if_neg fun x=>hm x.1];exact Zxx L r hl hm
def posR (t a:Int) (v:V3):Rc:=⟨t,a,1,v,0,0,0,0,0,0⟩
def staR (t a s:Int):Rc:=⟨t,a,2,v0,s,0,0,0,0,0⟩
def frmR (t a k f o n:Int):Rc:=⟨t,a,3,v0,0,k,f,o,n,0⟩
theorem bl9:Nat.blt 9 1000000=true:=rfl
theorem Qz9 (L:List Rc) (t a:Int) (v:V3) (hl:L.length<10000):Qbv Tryz.prog 30 [.bp 1000000 1 0 0,.int .i64 t,.int .i64 a,.agg [.int .i64 v.x,.int .i64 v.y,.int .i64 v.z]] (lgL L) (.int .i64 (addE L (posR t a v))) (lgG (addL sumU L (posR t a v))):=by
 have h:=Q5x L (posR t a v) hl;generalize addL sumU L (posR t a v)=q at*;generalize addE L (posR t a v)=e at*;unfold rcV posR at h;simp only at h

 refine Qbc (tb:=[(105,[(1000000,1000000),(1000001,1000001)],[(9,9)])]) 15 [.tmp 8] [0,1,2,3,7,8] mixed Tryz.func30 rfl (by kernel_rfl) (by kernel_rfl) (by kernel_rfl) (by kernel_rfl) (by rfl) ?_;repeat (first|simp -implicitDefEqProofs only [go_sem,seval,lgL,bl13,bl14,bl9]|(with_reducible refine Qai h ?_ ?_ ?_ ?_);rfl;rfl;rfl)
 refine Qa2 (.inl rfl) ?_;simp -implicitDefEqProofs only [go_sem,seval];refine Qaj (θ:=[(1000000,1000000),(1000001,1000001),(9,9)]) rfl ?_ ?_
 ·simp [Qac,lkp,ren1,ren0,Qah]
 ·exact⟨⟨rfl,rfl,rfl,rfl,rfl,.inr ⟨rfl,_,_,rfl,rfl,rfl,rfl⟩⟩,⟨rfl,rfl,rfl,rfl,rfl,.inl ⟨rfl,rfl⟩⟩,⟨rfl,rfl,rfl,rfl,rfl,.inl ⟨rfl,rfl⟩⟩,trivial⟩
theorem Zex (L:List Rc) (t a s:Int) (hl:L.length<10000):Qbv Tryz.prog 32 [.bp 1000000 1 0 0,.int .i64 t,.int .i64 a,.int .i64 s] (lgL L) (.int .i64 (addE L (staR t a s))) (lgG (addL sumU L (staR t a s))):=by
 have h:=Q5x L (staR t a s) hl;generalize addL sumU L (staR t a s)=q at*;generalize addE L (staR t a s)=e at*;unfold rcV staR v0 at h;simp only at h

 refine Qbc (tb:=[(105,[(1000000,1000000),(1000001,1000001)],[(9,9)])]) 15 [.tmp 8] [0,1,2,3,8] mixed Tryz.func32 rfl (by kernel_rfl) (by kernel_rfl) (by kernel_rfl) (by kernel_rfl) (by rfl) ?_;repeat (first|simp -implicitDefEqProofs only [go_sem,seval,lgL,bl13,bl14,bl9]|(with_reducible refine Qai h ?_ ?_ ?_ ?_);rfl;rfl;rfl)
 refine Qa2 (.inl rfl) ?_;simp -implicitDefEqProofs only [go_sem,seval];refine Qaj (θ:=[(1000000,1000000),(1000001,1000001),(9,9)]) rfl ?_ ?_
 ·simp [Qac,lkp,ren1,ren0,Qah]
 ·exact⟨⟨rfl,rfl,rfl,rfl,rfl,.inr ⟨rfl,_,_,rfl,rfl,rfl,rfl⟩⟩,⟨rfl,rfl,rfl,rfl,rfl,.inl ⟨rfl,rfl⟩⟩,⟨rfl,rfl,rfl,rfl,rfl,.inl ⟨rfl,rfl⟩⟩,trivial⟩
theorem Zxz (L:List Rc) (t a k f o n:Int) (hl:L.length<10000):Qbv Tryz.prog 33 [.bp 1000000 1 0 0,.int .i64 t,.int .i64 a,frV k f o n] (lgL L) (.int .i64 (addE L (frmR t a k f o n))) (lgG (addL sumU L (frmR t a k f o n))):=by
 have h:=Q5x L (frmR t a k f o n) hl;generalize addL sumU L (frmR t a k f o n)=q at*;generalize addE L (frmR t a k f o n)=e at*;unfold rcV frmR v0 at h;unfold frV;simp only at h

 refine Qbc (tb:=[(105,[(1000000,1000000),(1000001,1000001)],[(9,9)])]) 15 [.tmp 8] [0,1,2,3,7,8] mixed Tryz.func33 rfl (by kernel_rfl) (by kernel_rfl) (by kernel_rfl) (by kernel_rfl) (by rfl) ?_;repeat (first|simp -implicitDefEqProofs only [go_sem,seval,lgL,bl13,bl14,bl9]|(with_reducible refine Qai h ?_ ?_ ?_ ?_);rfl;rfl;rfl)
 refine Qa2 (.inl rfl) ?_;simp -implicitDefEqProofs only [go_sem,seval];refine Qaj (θ:=[(1000000,1000000),(1000001,1000001),(9,9)]) rfl ?_ ?_
 ·simp [Qac,lkp,ren1,ren0,Qah]
 ·exact⟨⟨rfl,rfl,rfl,rfl,rfl,.inr ⟨rfl,_,_,rfl,rfl,rfl,rfl⟩⟩,⟨rfl,rfl,rfl,rfl,rfl,.inl ⟨rfl,rfl⟩⟩,⟨rfl,rfl,rfl,rfl,rfl,.inl ⟨rfl,rfl⟩⟩,trivial⟩
structure Ax where
 w:Int
 t:Int
 a:Int
 v:V3
 s:Int
def ax0:Ax:=⟨0,0,0,v0,0⟩
def axV (x:Ax):PV:= .agg [.int .i64 x.w,.int .i64 x.t,.int .i64 x.a,.int .i64 x.v.x,.int .i64 x.v.y,.int .i64 x.v.z,.int .i64 x.s]
def actR (x:Ax):Rc:=if x.w=0 then posR x.t x.a x.v else if x.w=1 then staR x.t x.a x.s else frmR x.t x.a 4 0 x.a 0
def logS (l:List Ax):Nat→List Rc
 |0=>[]
 |i+1=>addL sumU (logS l i) (actR (l.getD i ax0))
theorem Qg6 (l:List Ax): ∀i,(logS l i).length≤i
 |0=>Nat.le_refl _
 |i+1=>by
  have:=Qg6 l i;unfold logS addL;split<;>simp<;>omega
theorem Zol (l:List Ax) (i:Nat) (h:i<l.length):(l.map axV)[i]? =some (.agg [.int .i64 (l.getD i ax0).w,.int .i64 (l.getD i ax0).t,.int .i64 (l.getD i ax0).a,.int .i64 (l.getD i ax0).v.x,.int .i64 (l.getD i ax0).v.y,.int .i64 (l.getD i ax0).v.z,.int .i64 (l.getD i ax0).s]):=by
 rw [List.getElem?_map,List.getElem?_eq_getElem h,List.getD_eq_getElem?_getD,List.getElem?_eq_getElem h];rfl
set_option maxHeartbeats 4000000 in
theorem Zx0 (l:List Ax) (hl:l.length≤1000):Qbv Tryz.prog 10 [.slc (l.map axV)] [] (.bp 7 1 0 0) [(7,lgB 8 (logS l l.length).length),(8,rcB (logS l l.length))]:=by
 have hn:=Qz8;have bl7:Nat.blt 7 1000000=true:=rfl;have bl8:Nat.blt 8 1000000=true:=rfl

 refine Qbc (tb:=[(100,[],[(7,7),(8,8)]),(1107,[(1000000,7),(1000001,8)],[(9,9)]),(1307,[(1000000,7),(1000001,8)],[(9,9)]),(908,[(1000000,7),(1000001,8)],[(9,9)])]) 51 [.tmp 2] [0,2,3,4,5,8,12,20,30,40] mixed Tryz.func10 rfl (by kernel_rfl) (by kernel_rfl) (by kernel_rfl) (by kernel_rfl) (by rfl) ?_;repeat (first|simp -implicitDefEqProofs only [go_sem,seval,bl7,bl8]|(with_reducible refine Qai hn ?_ ?_ ?_ ?_);rfl;rfl;rfl)
 refine Qas mixed (fun i:{i:Nat // i≤l.length}=>St.of [(0,.slc (l.map axV)),(3,.bp 7 1 0 0),(4,.int .i64 (i.1:Int))] [(7,lgB 8 (logS l i.1).length),(8,rcB (logS l i.1))]) (fun i=>l.length-i.1) ⟨0,Nat.zero_le _⟩ ?_ ?_
 ·refine Qaj (θ:=[(7,7),(8,8)]) rfl ?_ ?_
  ·simp [Qac,lkp,ren1,ren0,Qah]
  ·exact⟨⟨rfl,rfl,rfl,rfl,rfl,.inr ⟨rfl,_,_,rfl,rfl,rfl,rfl⟩⟩,⟨rfl,rfl,rfl,rfl,rfl,.inl ⟨rfl,rfl⟩⟩,trivial⟩
 ·rintro⟨i,hi⟩;simp only;by_cases hA:i<l.length
  ·have hA':=ltE hA;have n0:=nnE i;have hg:=Zol l i hA;have hw:=wrE (n:=i) (by omega);have hll:=Qg6 l i;have hst:logS l (i+1)=addL sumU (logS l i) (actR (l.getD i ax0)):=rfl;unfold actR at hst;generalize logS l i=L at*;generalize l.getD i ax0=x at*;cases h0:(x.w==0)with
   |true=>
    rw [if_pos (beq_iff_eq.1 h0)]at hst;have h:=Qz9 L x.t x.a x.v (by omega);unfold lgL at h;generalize addL sumU L (posR x.t x.a x.v)=q at*;repeat (first|simp -implicitDefEqProofs only [go_sem,seval,hA',n0,hg,bl13,bl14,bl9,hw,h0,Int.toNat_natCast,List.length_map]|(with_reducible refine Qai h ?_ ?_ ?_ ?_);rfl;rfl;rfl)
    refine⟨⟨i+1,hA⟩,by simp only;omega,?_⟩;simp only [hst];refine Qaj (θ:=[(7,7),(8,9)]) rfl ?_ ?_
    ·simp [Qac,lkp,ren1,ren0,Qah]
    ·exact⟨⟨rfl,rfl,rfl,rfl,rfl,.inr ⟨rfl,_,_,rfl,rfl,rfl,rfl⟩⟩,⟨rfl,rfl,rfl,rfl,rfl,.inl ⟨rfl,rfl⟩⟩,trivial⟩
   |false=>
   rw [if_neg (beq_eq_false_iff_ne.1 h0)]at hst;cases h1:(x.w==1)with
   |true=>
    rw [if_pos (beq_iff_eq.1 h1)]at hst;have h:=Zex L x.t x.a x.s (by omega);unfold lgL at h;generalize addL sumU L (staR x.t x.a x.s)=q at*;repeat (first|simp -implicitDefEqProofs only [go_sem,seval,hA',n0,hg,bl13,bl14,bl9,hw,h0,h1,Int.toNat_natCast,List.length_map]|(with_reducible refine Qai h ?_ ?_ ?_ ?_);rfl;rfl;rfl)
    refine⟨⟨i+1,hA⟩,by simp only;omega,?_⟩;simp only [hst];refine Qaj (θ:=[(7,7),(8,9)]) rfl ?_ ?_
    ·simp [Qac,lkp,ren1,ren0,Qah]
    ·exact⟨⟨rfl,rfl,rfl,rfl,rfl,.inr ⟨rfl,_,_,rfl,rfl,rfl,rfl⟩⟩,⟨rfl,rfl,rfl,rfl,rfl,.inl ⟨rfl,rfl⟩⟩,trivial⟩
   |false=>
    rw [if_neg (beq_eq_false_iff_ne.1 h1)]at hst;have h:=Zxz L x.t x.a 4 0 x.a 0 (by omega);unfold lgL frV at h;generalize addL sumU L (frmR x.t x.a 4 0 x.a 0)=q at*;repeat (first|simp -implicitDefEqProofs only [go_sem,seval,hA',n0,hg,bl13,bl14,bl9,hw,h0,h1,Int.toNat_natCast,List.length_map]|(with_reducible refine Qai h ?_ ?_ ?_ ?_);rfl;rfl;rfl)
    refine⟨⟨i+1,hA⟩,by simp only;omega,?_⟩;simp only [hst];refine Qaj (θ:=[(7,7),(8,9)]) rfl ?_ ?_
    ·simp [Qac,lkp,ren1,ren0,Qah]
    ·exact⟨⟨rfl,rfl,rfl,rfl,rfl,.inr ⟨rfl,_,_,rfl,rfl,rfl,rfl⟩⟩,⟨rfl,rfl,rfl,rfl,rfl,.inl ⟨rfl,rfl⟩⟩,trivial⟩
  ·have hA':=ltE' hA;obtain rfl:i=l.length:=by omega
   repeat simp -implicitDefEqProofs only [go_sem,seval,hA',List.length_map]
   refine Qa2 (.inl rfl) ?_;simp -implicitDefEqProofs only [go_sem,seval];refine Qaj (θ:=[(7,7),(8,8)]) rfl ?_ ?_
   ·simp [Qac,lkp,ren1,ren0,Qah]
   ·exact⟨⟨rfl,rfl,rfl,rfl,rfl,.inr ⟨rfl,_,_,rfl,rfl,rfl,rfl⟩⟩,⟨rfl,rfl,rfl,rfl,rfl,.inl ⟨rfl,rfl⟩⟩,trivial⟩
theorem Z1u:tyFn Tryz.prog 105=true:=by kernel_rfl
theorem Qqb (r:Rc):rcV r= .agg [.int .i64 r.t,.int .i64 r.a,.int .i64 r.k,.int .i64 r.v.x,.int .i64 r.v.y,.int .i64 r.v.z,.int .i64 r.s,.int .i64 r.fk,.int .i64 r.ff,.int .i64 r.ft,.int .i64 r.fs,.slc [],.int .u32 r.u]:=rfl
abbrev lgR (L:List Rc):PV:= .rp [.slc (L.map rcV)]
theorem Qyb (L:List Rc):Qaf Tryz.prog 41 [lgR L] (.fn 69 [] [lgR L]):=by
 refine Qab (tb:=[]) 22 [.tmp 2] [0,2,3,5] mixed Tryz.func41 rfl (by kernel_rfl) ?_;repeat (first|simp -implicitDefEqProofs only [go_sem,seval,lgR,List.length_map,decide_true,Bool.and_self]|(with_reducible exact Qad _ _ (by kernel_rfl)))
def allO (L:List Rc):List (List PV):=(List.range L.length).map fun i:Nat=>[.int .i64 (i:Int),rcV (L.getD i rc0)]
theorem Qij (L:List Rc):(allO L).length=L.length:=by simp [allO]
theorem Qik (L:List Rc) (i:Nat) (h:i<L.length):(allO L)[i]? =some [.int .i64 (i:Int),rcV (L.getD i rc0)]:=by simp [allO,h]
set_option maxHeartbeats 4000000 in
theorem Qyc (L:List Rc) (hl:L.length≤100000):Qf3 Tryz.prog 69 [lgR L] (allO L):=by
 have hlO:=Qij L;have hgO:=fun i h=>Qik L i h;generalize allO L=OO at*;refine Qnx (tb:=[]) 19 [0,1,3,4,5,6,7,8,17] mixed Tryz.func69 rfl (by kernel_rfl) (by kernel_rfl) (by kernel_rfl) (by kernel_rfl) fun l stop=> ?_;repeat simp -implicitDefEqProofs only [go_sem,seval,lgR,List.length_map]
 refine Qas mixed (fun i:{i:Nat // i≤L.length∧i≤stop}=>St.ofG [(0,.yld l stop),(1,.rp [.slc (L.map rcV)]),(5,.slc (L.map rcV)),(6,.int .i64 (L.length:Int)),(7,.int .i64 (i.1:Int))] [] (OO.take i.1) (some (l,stop,OO))) (fun i=>L.length-i.1) ⟨0,Nat.zero_le _,Nat.zero_le _⟩ ?_ ?_
 ·refine Qa0 ?_;simp [Qac,lkp,ren1,ren0,Qah]
 ·rintro⟨i,hi,hst⟩;simp only;have hlen:(OO.take i).length=i:=by rw [List.length_take];omega
  by_cases hA:i<L.length
  ·have hA':=ltE hA;have n0:=nnE i;have hg:=Qga L i hA;have hwk:=wrE (n:=i) (by omega);have ho:=Zn9 (L.getD i rc0);have hgt:=hgO i hA;have htk:OO.take (i+1)=OO.take i++[[.int .i64 (i:Int),rcV (L.getD i rc0)]]:=by rw [List.take_add_one,hgt];rfl
   generalize L.getD i rc0=r at*;unfold rcV at ho hgt htk;have hst':(i≤stop)=True:=eq_true hst;by_cases hlt:i<stop
   ·have hlt':(i<stop)=True:=eq_true hlt;repeat (first|simp -implicitDefEqProofs only [go_sem,seval,hA',n0,hg,hwk,hlen,hgt,hst',hlt',Int.toNat_natCast]|(with_reducible refine Qaa ho ?_ ?_ ?_);rfl;rfl)
    refine⟨⟨i+1,hA,hlt⟩,by simp only;omega,?_⟩;simp only [htk];refine Qaj (θ:=[]) rfl ?_ trivial;simp [Qac,lkp,ren1,ren0,Qah]
   ·have hlt':(i<stop)=False:=eq_false hlt;obtain rfl:i=stop:=by omega
    repeat (first|simp -implicitDefEqProofs only [go_sem,seval,hA',n0,hg,hlen,hgt,hst',hlt',Qh5,htk,Int.toNat_natCast]|(with_reducible refine Qaa ho ?_ ?_ ?_);rfl;rfl)
  ·have hA':=ltE' hA;have e1:OO.take i=OO:=List.take_of_length_le (by omega);have e2:OO.take (stop+1)=OO:=List.take_of_length_le (by omega);rw [e1];repeat simp -implicitDefEqProofs only [go_sem,seval,hA',Qh5,e2]
theorem Zey (L:List Rc) (i:Nat) (h:i<L.length):(L.take (i+1)).map rcV=(L.take i).map rcV++[rcV (L.getD i rc0)]:=by
 rw [List.take_add_one,List.getElem?_eq_getElem h,List.getD_eq_getElem?_getD,List.getElem?_eq_getElem h,List.map_append];rfl
set_option maxHeartbeats 4000000 in
theorem Qsl (L:List Rc) (hl:L.length≤100000):Qbv Tryz.prog 14 [lgR L] [] (.bs 7 13 0 L.length) [(7,rcB L)]:=by
 have ha:=Qyb L;have hY:=Qyc L hl;have hlO:=Qij L;have hgO:=fun i h=>Qik L i h;generalize allO L=OO at*;refine Qbc (tb:=[]) 19 [.tmp 2] [0,2,3,4,6,10,11,12,13] mixed Tryz.func14 rfl (by kernel_rfl) (by kernel_rfl) (by kernel_rfl) (by kernel_rfl) (by rfl) ?_;repeat (first|simp -implicitDefEqProofs only [go_sem,seval,Z1u,lgR]|(with_reducible refine Qaa ha ?_ ?_ ?_);rfl;rfl)
 refine Qi1 (Qqr 100 7 13 60 rfl rfl rfl rfl rfl (by decide)) ?_;refine Qh6 mixed hY rfl rfl _ rfl [(1000000,100),(7,7)] [1000000] rfl [(3,.bp 1000000 1 0 0)]
  (fun j:Nat=>[(1000000,{els:=[.bs 7 13 0 j],esz:=1,ety:=40,fro:=0,live:=true,arr:=false}),(7,rcB (L.take j))]) rfl rfl ?_ ?_ ?_ L.length .normal (fun h=>by omega) (fun j _ _=>by simp [lkp]) ?_ rfl ?_
  [(100,1000000),(7,7)] [(3,.bp 100 1 0 0)] [(100,{els:=[.bs 7 13 0 L.length],esz:=1,ety:=40,fro:=0,live:=true,arr:=false}),(7,rcB L)] rfl rfl ?_ ?_ (fun _=> ?_) (fun h=>by omega)
 ·simp [Qac,lkp,ren1,ren0,Qah]
 ·exact⟨⟨rfl,rfl,rfl,rfl,rfl,.inr ⟨rfl,_,_,rfl,rfl,rfl,rfl⟩⟩,⟨rfl,rfl,rfl,rfl,rfl,.inl ⟨rfl,rfl⟩⟩,trivial⟩
 ·simp [Qac,lkp,ren1,ren0,Qah,Qki]
 ·intro j args h;rw [hgO j (by rw [←hlO];exact(List.getElem?_eq_some_iff.1 h).1)]at h;cases h;rfl
 ·rintro j args hja hjs;have hj:j<L.length:=by rw [←hlO];exact(List.getElem?_eq_some_iff.1 hja).1
  rw [hgO j hj]at hja;cases hja;have hlt:((L.take j).map rcV).length=j:=by simp;omega
  have hok:=Zok (L.take j);have k1:((j+1)*120≤140737488355328)=True:=eq_true (by omega);have k2:(j+1≤maxLen)=True:=eq_true (by unfold maxLen;omega);have hts:=Zey L j hj;simp only [hts,rcB];generalize (L.take j).map rcV=T at*;generalize L.getD j rc0=r at*;simp only [Qqb r]at hts ⊢;repeat simp -implicitDefEqProofs only [go_sem,seval,pvars,List.toList_toArray]
  refine⟨by simp [lkp],?_⟩;repeat simp -implicitDefEqProofs only [go_sem,seval,hlt,hok,k1,k2]
  refine⟨hj,?_⟩;simp only [hts];refine Qaj (θ:=[(1000000,1000000),(7,703)]) rfl ?_ ?_
  ·simp [Qac,lkp,ren1,ren0,Qah]
  ·exact⟨⟨rfl,rfl,rfl,rfl,rfl,.inr ⟨rfl,_,_,rfl,rfl,rfl,rfl⟩⟩,⟨rfl,rfl,rfl,rfl,rfl,.inl ⟨rfl,rfl⟩⟩,trivial⟩
 ·simp [Qac,lkp,ren1,ren0,Qah]
 ·have hm:min OO.length (L.length+1)=L.length:=by omega
  have ht:L.take L.length=L:=List.take_length;rw [hm];simp only [ht];exact⟨⟨rfl,rfl,rfl,rfl,rfl,.inr ⟨rfl,_,_,rfl,rfl,rfl,rfl⟩⟩,⟨rfl,rfl,rfl,rfl,rfl,.inl ⟨rfl,rfl⟩⟩,trivial⟩
 ·repeat simp -implicitDefEqProofs only [go_sem,seval]
  refine Qa2 (.inl rfl) ?_;simp -implicitDefEqProofs only [go_sem,seval];refine Qaj (θ:=[(7,7)]) rfl ?_ ?_
  ·simp [Qac,lkp,ren1,ren0,Qah]
  ·exact⟨⟨rfl,rfl,rfl,rfl,rfl,.inl ⟨rfl,rfl⟩⟩,trivial⟩
end Go.Proofs.YtnohfmdlaajpbaaGreat

namespace Go.Vl
open Go.RowKit
theorem Q3m {P:Program} {nt:Nat} {Q:Exit→St→Prop} {st:St} {id:Nat} {x:Code} (h:VwpN P nt x (vblock id Q) st):VwpN P nt (.block id x) Q st:=fun C h1 h2 h3 h4 a w hr=>
 wpIn_block (wpIn_mono (h C h1 h2 h3 h4 a w hr) fun e a' w' ⟨s,q,r⟩=>by
  cases e with
  |exit i=>
   simp only [vblock]at q;simp only [Exit.inBlock];split
   ·rename_i hi;rw [if_pos hi]at q;exact⟨s,q,r⟩
   ·rename_i hi;rw [if_neg hi]at q;exact⟨s,q,r⟩
  |_=>exact⟨s,q,r⟩)
def vat (st':St):Exit→St→Prop
 | .normal,s=>Le s st'
 |_,_=>False
theorem Quc {P:Program} {tb:Tab} {nt:Nat} {ks:List Nat} {Q:Exit→St→Prop} {st st':St} {x y:Code} (hm:P.follows .mixedOrders=true) (h:go P tb nt ks [.code x] (vat st') st) (k:VwpN P nt y Q st'):VwpN P nt (.seq x y) Q st:=by
 refine Znw (Zwl ?_);have h':=h;simp only [go]at h';have e:(fun e s=>gleave P tb nt ks [] (vat st') e s)=vat st':=by funext e s;simp only [gleave]
 rw [e]at h';refine Qdt (Qb5 hm _ _ _ h') fun e s q=> ?_;cases e with
 |normal=>exact fun C h1 h2 h3 h4 a w hr=>k C h1 h2 h3 h4 a w (q C a w hr)
 |_=>exact q.elim
theorem Qn0 {P:Program} {tb:Tab} {nt:Nat} {ks:List Nat} {Q:Exit→St→Prop} (hm:P.follows .mixedOrders=true) {vs0:List (Nat×PV)} {bs0:List (Nat×Box)} {l stop:Nat} {outs:List (List PV)} {g:Operand} {ps:Array Tmp} {assign body:Code} {f:FuncId} {cap xs:List PV} {es:List Eff} {la:Acc} {outs2:List (List PV)}
  (O:Nat→List (List PV)) (hs:Qf3 P f xs outs2) (hg:(St.ofG vs0 bs0 (O 0) (some (l,stop,outs))).ev g=some (.fn f [] cap)) (he:Qev cap (lkp bs0)=some ((xs,es),la))
  (bs1:List (Nat×Box)) (he1:Qan es (St.ofG vs0 bs0 (O 0) (some (l,stop,outs)))=St.ofG vs0 bs1 (O 0) (some (l,stop,outs))) (vs:List (Nat×PV)) (hv:Qac [] vs0 vs)
  (stop2:Nat) (jump:Exit) (hjump:stop2<outs2.length→(Qjo jump).isSome=true)
  (hps: ∀(k:Nat) (args:List PV),outs2[k]? =some args→args.length=ps.size) (hpt:(ps.toList.all fun t=>Nat.blt t nt)=true)
  (hbody: ∀(k:Nat) (args:List PV),outs2[k]? =some args→k≤stop2→go P tb nt ks [.code assign,.again fun s=>go P tb nt ks [.code body] (Qnz O (some (l,stop,outs)) stop2 jump k) s] (fun _ _=>False) (St.ofG (pvars ps.toList args vs) [] (O k) (some (l,stop,outs))))
  (hQ:Q (if outs2.length≤stop2 then .normal else jump) (St.ofG vs [] (O (min outs2.length (stop2+1))) (some (l,stop,outs)))):VwpN P nt (.rangeFunc g ps assign body) Q (St.ofG vs0 bs0 (O 0) (some (l,stop,outs))):=by
 refine Q3k O hg he hs bs1 he1 vs hv stop2 jump hjump hps hpt (fun k args h1 h2=> ?_) hQ;have h:=hbody k args h1 h2;simp only [go]at h;refine Qdt (Qb5 hm _ _ _ h) ?_;intro e s q;cases e with
 |normal=>
  simp only [gleave]at q;have q':=Qb5 (tb:=tb) (ks:=ks) hm _ _ _ q;exact q'
 |_=>simp only [gleave]at q
theorem Qzj {vs:List (Nat×PV)} {bs:List (Nat×Box)} {o:List (List PV)} {y:Yl} (t b:Nat) {B:Box} {esz i off n:Nat} {v':PV} {l:Acc} (ht:lkp vs t=some (.bp b esz i off)) (hB:lkp bs b=some B) (he:escC (.bp b esz i off) (lkp bs)=some ((v',[.fro b n]),l)):
  Le (St.ofG vs bs o y) (St.ofG ((t,v')::vs) ((b,{B with fro:=max B.fro n,live:=B.live&&true})::bs) o y):=by
 refine Z0c t ht he ?_;have hB':(St.ofG vs bs o y).box b=some B:=hB;simp only [Qay,Qbu,Eff.on,hB'];refine St.ext'' rfl ?_ rfl rfl;funext k;by_cases e:k=b
 ·subst e;simp [St.setBox,St.ofG,Qao,lkp]
 ·simp [St.setBox,St.ofG,Qal _ _ _ _ e,lkp,e]
end Go.Vl

namespace Go.Proofs.YtnohfmdlaajpbaaGreat
open Go.Vl Go.RowKit Go.Dg
theorem yl_c (l stop:Nat):(PV.yld l stop).cells=[.yld l stop]:=rfl
def of1 (a:Int) (i:Nat) (r:Rc):List (List PV):=if(r.a==a)=true then [[.int .i64 (i:Int),rcV r]]else []
def ofO (L:List Rc) (a:Int):Nat→List (List PV)
 |0=>[]
 |i+1=>ofO L a i++of1 a i (L.getD i rc0)
theorem Qsf (L:List Rc) (a:Int) {j:Nat}: ∀{k},j≤k→(ofO L a j).length≤(ofO L a k).length
 |0,h=>by
    obtain rfl:j=0:=by omega
    exact Nat.le_refl _
 |k+1,h=>by
  by_cases e:j=k+1
  ·subst e;exact Nat.le_refl _
  ·have:=Qsf L a (j:=j) (k:=k) (by omega);simp only [ofO,List.length_append];omega
theorem Quw (L:List Rc) (a:Int) {j:Nat}: ∀{k},j≤k→ ∃R,ofO L a k=ofO L a j++R
 |0,h=>by
    obtain rfl:j=0:=by omega
    exact⟨[],by simp⟩
 |k+1,h=>by
  by_cases e:j=k+1
  ·subst e;exact⟨[],by simp⟩
  ·obtain⟨R,hR⟩:=Quw L a (j:=j) (k:=k) (by omega);exact⟨R++of1 a k (L.getD k rc0),by simp only [ofO,hR,List.append_assoc]⟩
theorem Q43 (a:Int) (i:Nat) (r:Rc):(of1 a i r).length≤1:=by unfold of1;split<;>simp
theorem Qx0 (L:List Rc) (a:Int) (stop:Nat): ∀n,(∃K,K<n∧(ofO L a K).length=stop∧(ofO L a (K+1)).length=stop+1)∨(ofO L a n).length≤stop
 |0=> .inr (Nat.zero_le _)
 |n+1=>by
  rcases Qx0 L a stop n with⟨K,h1,h2,h3⟩|h
  ·exact .inl ⟨K,by omega,h2,h3⟩
  ·have h1:=Q43 a n (L.getD n rc0);have h2:(ofO L a (n+1)).length=(ofO L a n).length+(of1 a n (L.getD n rc0)).length:=by simp only [ofO,List.length_append]
   by_cases e:(ofO L a (n+1)).length≤stop
   ·exact .inr e
   ·exact .inl ⟨n,by omega,by omega,by omega⟩
theorem Qux (L:List Rc) (a:Int) {i n:Nat} (hi:i<n) (h:((L.getD i rc0).a==a)=true):(ofO L a n)[(ofO L a i).length]? =some [.int .i64 (i:Int),rcV (L.getD i rc0)]:=by
 obtain⟨R,hR⟩:=Quw L a (j:=i+1) (k:=n) (by omega);rw [hR];simp only [ofO,of1,if_pos h,List.append_assoc];rw [List.getElem?_append_right (Nat.le_refl _),Nat.sub_self];rfl
set_option maxHeartbeats 4000000 in
theorem Z1i (L:List Rc) (a:Int) (hl:L.length≤100000):Qf3 Tryz.prog 98 [.rp [.fn 69 [] [lgR L]],.rp [.int .i64 a]] (ofO L a L.length):=by
 have hY:=Qyc L hl;have hlO:=Qij L;have hgO:=fun i h=>Qik L i h;generalize allO L=OA at*;refine Q3l 20 Tryz.func98 rfl (by kernel_rfl) (by kernel_rfl) (by kernel_rfl) (by kernel_rfl) fun l stop=> ?_;refine Quc (tb:=[]) (ks:=[0,1,2,3,4,5,6,7,8,19]) mixed (st':=St.ofG [(0,.yld l stop),(1,.rp [.fn 69 [] [lgR L]]),(2,.rp [.int .i64 a]),(3,.bp 0 1 0 0)] [(0,{els:=[.yld l stop],esz:=1,ety:=148,fro:=0,live:=true,arr:=false})] [] (some (l,stop,ofO L a L.length))) ?_ ?_
 ·repeat simp -implicitDefEqProofs only [go_sem,seval,lgR,yl_c,PV.okCell]
  refine Qaj (θ:=[(0,0)]) rfl ?_ ?_
  ·simp [Qac,lkp,ren1,ren0,Qah]
  ·exact⟨⟨rfl,rfl,rfl,rfl,rfl,.inr ⟨rfl,_,_,rfl,rfl,rfl,rfl⟩⟩,trivial⟩
 refine Quc (tb:=[]) (ks:=[0,1,2,3,4,5,6,7,8,19]) mixed (st':=St.ofG [(2,.rp [.int .i64 a]),(3,.rp [.yld l stop]),(6,.fn 69 [] [lgR L])] [] [] (some (l,stop,ofO L a L.length))) ?_ ?_
 ·repeat simp -implicitDefEqProofs only [go_sem,seval,lgR]
  refine Le.trans (Qzj 3 0 rfl rfl rfl) ?_;refine Qaj (θ:=[]) rfl ?_ trivial;simp [Qac,lkp,ren1,ren0,Qah]
 have hyc: ∀k,k≤L.length→(ofO L a k).length≤L.length:=fun k hk=>by
  have: ∀n,(ofO L a n).length≤n:=fun n=>by
   induction n with
   |zero=>exact Nat.le_refl _
   |succ n ih=>
    have:=Q43 a n (L.getD n rc0);simp only [ofO,List.length_append];omega
  have:=this k;omega
 refine Q3m ?_;rcases Qx0 L a stop L.length with⟨K,hK,hK1,hK2⟩|hall
 ·have hsum:ofO L a (K+1)=(ofO L a L.length).take (stop+1):=by
   obtain⟨R,hR⟩:=Quw L a (j:=K+1) (k:=L.length) (by omega);rw [hR,←hK2,List.take_left]
  refine Qn0 (tb:=[]) (ks:=[0,1,2,3,4,5,6,7,8,19]) mixed (ofO L a) hY rfl rfl [] rfl [(2,.rp [.int .i64 a]),(3,.rp [.yld l stop])] ?_ K .ret (fun _=>rfl) ?_ rfl ?_ ?_
  ·simp [Qac,lkp,ren1,ren0,Qah]
  ·intro k args h;rw [hgO k (by rw [←hlO];exact(List.getElem?_eq_some_iff.1 h).1)]at h;cases h;rfl
  ·rintro k args hka hks;have hkL:k<L.length:=by omega
   rw [hgO k hkL]at hka;cases hka;have hmono:=Qsf L a (j:=k+1) (k:=K+1) (by omega);have hles:ofO L a (k+1)=ofO L a k++of1 a k (L.getD k rc0):=rfl;have hlk:=Qsf L a (j:=k) (k:=K) hks;cases hm:((L.getD k rc0).a==a)with
   |true=>
    rw [of1,if_pos hm]at hles;have hle1:=eq_true (show(ofO L a k).length≤stop by omega);by_cases hkK:k<K
    ·have hmm:=Qsf L a (j:=k+1) (k:=K) hkK;have hlt1:=eq_true (show(ofO L a k).length<stop by rw [hles,List.length_append]at hmm;simp at hmm;omega);have hg:=Qux L a hkL hm;generalize ofO L a L.length=OO at*;generalize hOk:ofO L a k=Ok at*;generalize hOk1:ofO L a (k+1)=Ok1 at*;generalize L.getD k rc0=r at*;simp only [Qqb r]at hg hles ⊢;repeat simp -implicitDefEqProofs only [go_sem,seval,pvars,List.toList_toArray]
     repeat simp -implicitDefEqProofs only [go_sem,seval,hm,hg,hle1,hlt1,decide_true,Bool.and_true,Bool.not_true]
     refine⟨by omega,?_⟩;simp only [hOk1,hles];refine Qaj (θ:=[]) rfl ?_ trivial;simp [Qac,lkp,ren1,ren0,Qah]
    ·obtain rfl:k=K:=by omega
     have hlt1:=eq_false (show¬(ofO L a k).length<stop by omega);have hg:=Qux L a hkL hm;generalize ofO L a L.length=OO at*;generalize hOk:ofO L a k=Ok at*;generalize hOk1:ofO L a (k+1)=Ok1 at*;generalize L.getD k rc0=r at*;simp only [Qqb r]at hg hles ⊢;repeat simp -implicitDefEqProofs only [go_sem,seval,pvars,List.toList_toArray]
     repeat simp -implicitDefEqProofs only [go_sem,seval,hm,hg,hle1,hlt1,decide_true,decide_false,Bool.and_true,Bool.not_false]
     refine⟨by omega,rfl,?_⟩;simp only [hOk1,hles];refine Qaj (θ:=[]) rfl ?_ trivial;simp [Qac,lkp,ren1,ren0,Qah]
   |false=>
    rw [of1,if_neg (by rw [hm];decide),List.append_nil]at hles;have hkK:k<K:=by
     rcases Nat.lt_or_ge k K with h|h
     ·exact h
     ·obtain rfl:k=K:=by omega
      rw [hles]at hK2;omega
    generalize ofO L a L.length=OO at*;generalize hOk:ofO L a k=Ok at*;generalize hOk1:ofO L a (k+1)=Ok1 at*;generalize L.getD k rc0=r at*;simp only [Qqb r];repeat simp -implicitDefEqProofs only [go_sem,seval,pvars,List.toList_toArray]
    repeat simp -implicitDefEqProofs only [go_sem,seval,hm]
    refine⟨by omega,?_⟩;simp only [hOk1,hles];refine Qaj (θ:=[]) rfl ?_ trivial;simp [Qac,lkp,ren1,ren0,Qah]
  ·rw [show min OA.length (K+1)=K+1 by omega,if_neg (by omega)];show St.out _=_;exact hsum
 ·have hsum:ofO L a L.length=(ofO L a L.length).take (stop+1):=(List.take_of_length_le (by omega)).symm;refine Qn0 (tb:=[]) (ks:=[0,1,2,3,4,5,6,7,8,19]) mixed (ofO L a) hY rfl rfl [] rfl [(2,.rp [.int .i64 a]),(3,.rp [.yld l stop])] ?_ L.length .normal (fun h=>by omega) ?_ rfl ?_ ?_
  ·simp [Qac,lkp,ren1,ren0,Qah]
  ·intro k args h;rw [hgO k (by rw [←hlO];exact(List.getElem?_eq_some_iff.1 h).1)]at h;cases h;rfl
  ·rintro k args hka hks;have hkL:k<L.length:=by rw [←hlO];exact(List.getElem?_eq_some_iff.1 hka).1
   rw [hgO k hkL]at hka;cases hka;have hmono:=Qsf L a (j:=k+1) (k:=L.length) (by omega);have hles:ofO L a (k+1)=ofO L a k++of1 a k (L.getD k rc0):=rfl;cases hm:((L.getD k rc0).a==a)with
   |true=>
    rw [of1,if_pos hm]at hles;rw [hles,List.length_append]at hmono;simp only [List.length_cons,List.length_nil]at hmono;have hle1:=eq_true (show(ofO L a k).length≤stop by omega);have hlt1:=eq_true (show(ofO L a k).length<stop by omega);have hg:=Qux L a hkL hm;generalize ofO L a L.length=OO at*;generalize hOk:ofO L a k=Ok at*;generalize hOk1:ofO L a (k+1)=Ok1 at*;generalize L.getD k rc0=r at*;simp only [Qqb r]at hg hles ⊢;repeat simp -implicitDefEqProofs only [go_sem,seval,pvars,List.toList_toArray]
    repeat simp -implicitDefEqProofs only [go_sem,seval,hm,hg,hle1,hlt1,decide_true,Bool.and_true,Bool.not_true]
    refine⟨by omega,?_⟩;simp only [hOk1,hles];refine Qaj (θ:=[]) rfl ?_ trivial;simp [Qac,lkp,ren1,ren0,Qah]
   |false=>
    rw [of1,if_neg (by rw [hm];decide),List.append_nil]at hles;generalize ofO L a L.length=OO at*;generalize hOk:ofO L a k=Ok at*;generalize hOk1:ofO L a (k+1)=Ok1 at*;generalize L.getD k rc0=r at*;simp only [Qqb r];repeat simp -implicitDefEqProofs only [go_sem,seval,pvars,List.toList_toArray]
    repeat simp -implicitDefEqProofs only [go_sem,seval,hm]
    refine⟨by omega,?_⟩;simp only [hOk1,hles];refine Qaj (θ:=[]) rfl ?_ trivial;simp [Qac,lkp,ren1,ren0,Qah]
  ·rw [show min OA.length (L.length+1)=L.length by omega,if_pos (by omega)];show St.out _=_;exact hsum
end Go.Proofs.YtnohfmdlaajpbaaGreat

namespace Go.Vl
open Go.RowKit
def Q3g (P:Program) (tb:Tab) (nt:Nat) (ks:List Nat) (c:Code) (k:List It) (Q:Exit→St→Prop):List Nat→St→Prop
 | [],_=>False
 |_::l,st=>go P tb nt ks (.code c:: .again (Q3g P tb nt ks c k Q l)::k) Q st
theorem Q3h (P:Program) (tb:Tab) (nt:Nat) (ks:List Nat) (c:Code) (k:List It) (Q:Exit→St→Prop) (i:Nat) (l:List Nat) (st:St):Q3g P tb nt ks c k Q (i::l) st=go P tb nt ks (.code c:: .again (Q3g P tb nt ks c k Q l)::k) Q st:=rfl
attribute [go_sem] Q3h
theorem Qkh {P:Program} {tb:Tab} {nt:Nat} {ks:List Nat} {k:List It} {Q:Exit→St→Prop} {st:St} (hm:P.follows .mixedOrders=true) {c:Code} (l:List Nat) (h:Q3g P tb nt ks c k Q l st):go P tb nt ks (.code (.loop c)::k) Q st:=by
 simp only [go,vx];refine Qzb (fun x:{x:List Nat×St // Q3g P tb nt ks c k Q x.1 x.2}=>x.1.2) (fun x=>x.1.1.length) ⟨(l,st),h⟩ (fun _ _ _ h=>h) ?_;rintro⟨⟨l,s⟩,h⟩;cases l with
 |nil=>exact h.elim
 |cons i l=>
  simp only [Q3g,go]at h;refine Qdt (Qb5 (tb:=tb) (ks:=ks) hm c _ _ h) ?_;intro e s q;cases e with
  |normal=>simp only [gleave]at q;exact⟨⟨(l,s),q⟩,by simp,fun _ _ _ h=>h⟩
  |_=>simpa only [gleave,vthen]using q
end Go.Vl

namespace Go.Proofs.YtnohfmdlaajpbaaGreat
open Go.Vl Go.RowKit Go.Dg
theorem Z1j:Qn7 Tryz.prog 188=some (53,187):=by kernel_rfl
theorem Z1k:Qwf Tryz.prog 53=some [1]:=by kernel_rfl
theorem Zp7 (L:List Rc) (a:Int) (h:0≤a∧a≤64):Qaf Tryz.prog 97 [lgR L,.int .i64 a] (.int .i64 0):=by
 have w:=Q42 a 0 64;rw [Qb7.2 h]at w;refine Qab (tb:=[]) 12 [.tmp 4] [0,1,4,5,8] mixed Tryz.func97 rfl (by kernel_rfl) ?_;repeat (first|simp -implicitDefEqProofs only [go_sem,seval,lgR,Bool.not_true]|(with_reducible refine Qaa w ?_ ?_ ?_);rfl;rfl)
theorem Z1l (L:List Rc) (a:Int) (h:0≤a∧a≤64):Qaf Tryz.prog 74 [lgR L,.int .i64 a] (.tup [.fn 98 [] [.rp [.fn 69 [] [lgR L]],.rp [.int .i64 a]],.int .i64 0]):=by
 have c:=Zp7 L a h;have ha:=Qyb L;refine Qab (tb:=[]) 17 [.tmp 4,.tmp 5] [0,1,3,4,5,6,7,12] mixed Tryz.func74 rfl (by kernel_rfl) ?_;repeat (first|simp -implicitDefEqProofs only [go_sem,seval,lgR,bne_self_eq_false]|(with_reducible refine Qaa c ?_ ?_ ?_);rfl;rfl|(with_reducible refine Qaa ha ?_ ?_ ?_);rfl;rfl)
def st3 (a b c:Int):PV:= .slc [.int .i64 a,.int .i64 b,.int .i64 c]
theorem nb33:Nat.beq 3 3=true:=rfl
theorem nb3k:Nat.ble 3 1000=true:=rfl
theorem kc3:((3:Nat):Int)=3:=rfl
theorem Z1m (a b c n:Int):Qaf Tryz.prog 121 [st3 a b c,.int .i64 n] (.int .i64 (if(n==a)=true then 0 else if(n==b)=true then 1 else if(n==c)=true then 2 else -1)):=by
 have w1:IntKind.i64.wrap 1=1:=rfl;have w2:IntKind.i64.wrap 2=2:=rfl;have w3:IntKind.i64.wrap 3=3:=rfl;unfold st3;cases h1:(n==a)with
 |true=>
  refine Qab (tb:=[]) 19 [.tmp 4] [0,1,4,5,7,8,9,16] mixed Tryz.func121 rfl (by kernel_rfl) ?_;repeat simp -implicitDefEqProofs only [go_sem,seval,List.length_cons,List.length_nil,kc3]
  refine Qkh mixed [0,1,2,3] ?_;repeat simp -implicitDefEqProofs only [go_sem,seval,h1,List.getElem?_cons_zero,List.getElem?_cons_succ]
 |false=>
 cases h2:(n==b)with
 |true=>
  refine Qab (tb:=[]) 19 [.tmp 4] [0,1,4,5,7,8,9,16] mixed Tryz.func121 rfl (by kernel_rfl) ?_;repeat simp -implicitDefEqProofs only [go_sem,seval,List.length_cons,List.length_nil,kc3]
  refine Qkh mixed [0,1,2,3] ?_;repeat simp -implicitDefEqProofs only [go_sem,seval,h1,h2,List.getElem?_cons_zero,List.getElem?_cons_succ,w1]
 |false=>
 cases h3:(n==c)with
 |true=>
  refine Qab (tb:=[]) 19 [.tmp 4] [0,1,4,5,7,8,9,16] mixed Tryz.func121 rfl (by kernel_rfl) ?_;repeat simp -implicitDefEqProofs only [go_sem,seval,List.length_cons,List.length_nil,kc3]
  refine Qkh mixed [0,1,2,3] ?_;repeat simp -implicitDefEqProofs only [go_sem,seval,h1,h2,h3,List.getElem?_cons_zero,List.getElem?_cons_succ,w1,w2]
 |false=>
  refine Qab (tb:=[]) 19 [.tmp 4] [0,1,4,5,7,8,9,16] mixed Tryz.func121 rfl (by kernel_rfl) ?_;repeat simp -implicitDefEqProofs only [go_sem,seval,List.length_cons,List.length_nil,kc3]
  refine Qkh mixed [0,1,2,3] ?_;repeat simp -implicitDefEqProofs only [go_sem,seval,h1,h2,h3,List.getElem?_cons_zero,List.getElem?_cons_succ,w1,w2,w3]
theorem Zw6 (a b c n:Int):Qaf Tryz.prog 99 [st3 a b c,.int .i64 n] (.bool ((n==a)||((n==b)||(n==c)))):=by
 have h:=Z1m a b c n;have e:decide ((0:Int)≤if(n==a)=true then 0 else if(n==b)=true then 1 else if(n==c)=true then 2 else -1)=((n==a)||((n==b)||(n==c))):=by
  cases (n==a)<;>cases (n==b)<;>cases (n==c)<;>rfl
 rw [←e];unfold st3 at h ⊢;generalize (if(n==a)=true then(0:Int)else if(n==b)=true then 1 else if(n==c)=true then 2 else -1)=q at*;refine Qab (tb:=[]) 9 [.tmp 4] [0,1,4] mixed Tryz.func99 rfl (by kernel_rfl) ?_;repeat (first|simp -implicitDefEqProofs only [go_sem,seval]|(with_reducible refine Qaa h ?_ ?_ ?_);rfl;rfl)
def sts:Int→Int×Int×Int:=fun b=>if b=0∨b=7 then(1,1,1)else if b=1 then(2,2,2)else if b=2 then(1,3,3)else if b=3 then(1,2,4)else if b=4 then(5,6,6)else if b=5 then(4,6,6)else(7,7,7)
theorem Zw7 (b n:Int) (h:0≤b∧b≤7):((n==(sts b).1)||((n==(sts b).2.1)||(n==(sts b).2.2)))=Qd1 b n:=by
 have bqd: ∀x:Int,decide (n=x)=(n==x):=fun x=>bq n x;obtain rfl|rfl|rfl|rfl|rfl|rfl|rfl|rfl:b=0∨b=1∨b=2∨b=3∨b=4∨b=5∨b=6∨b=7:=by omega
 all_goals (simp only [sts,Qd1,bqd,Int.reduceEq,or_false,or_true,false_or,true_or,if_true,if_false,Bool.or_self])
set_option maxHeartbeats 4000000 in
set_option maxRecDepth 100000 in
theorem Zp8 (b n:Int) (h:0≤b∧b≤7):Qaf Tryz.prog 75 [.int .i64 b,.int .i64 n] (.bool (Qd1 b n)):=by
 rw [←Zw7 b n h];have c:=Zw6 (sts b).1 (sts b).2.1 (sts b).2.2 n;unfold st3 at c;obtain rfl|rfl|rfl|rfl|rfl|rfl|rfl|rfl:b=0∨b=1∨b=2∨b=3∨b=4∨b=5∨b=6∨b=7:=by omega
 all_goals (
  simp only [sts,Int.reduceEq,or_false,or_true,false_or,true_or,if_true,if_false]at c ⊢;refine Qab (tb:=[]) 23 [.tmp 4] [0,1,4,5,6] mixed Tryz.func75 rfl (by kernel_rfl) ?_;repeat (first|simp -implicitDefEqProofs only [go_sem,seval,Z1j,Z1k,Int.reduceBEq,Qby,PV.isAgg,Qgo,nb11,nb33,nb3k]|(with_reducible refine Qaa c ?_ ?_ ?_);rfl;rfl))
def fdV (d:Go.Dg.Fd):PV:= .agg [.int .i64 d.k,.int .i64 d.a,.int .i64 d.i,.int .i64 d.t]
abbrev fdB (F:List Go.Dg.Fd):Box:={els:=F.map fdV,esz:=4,ety:=77,fro:=0,live:=true,arr:=true}
abbrev fdD:Box:={els:=[],esz:=4,ety:=77,fro:=0,live:=false,arr:=true}
abbrev ouB (nm n:Nat):Box:={els:=[.bs nm 4 0 n],esz:=1,ety:=61,fro:=0,live:=true,arr:=false}
abbrev adB (nm:Nat):Box:={els:=[.fn 48 [] [.bp nm 1 0 0]],esz:=1,ety:=115,fro:=0,live:=true,arr:=false}
theorem Qmg (F:List Go.Dg.Fd):(((F.map fdV).flatMap PV.cells).all PV.okCell)=true:=by
 rw [List.all_flatMap,List.all_map,List.all_eq_true];intro _ _;rfl
theorem Zoa (F:List Go.Dg.Fd) (k a i t:Int) (hl:F.length≤1000000):Qbv Tryz.prog 48 [.int .i64 k,.int .i64 a,.int .i64 i,.int .i64 t,.bp 1000000 1 0 0] [(1000000,ouB 1000001 F.length),(1000001,fdB F)] (.tup []) [(1000000,ouB 9 (F.length+1)),(1000001,fdD),(9,fdB (F++[⟨k,a,i,t⟩]))]:=by
 have hlt:(F.map fdV).length=F.length:=List.length_map ..;have hok:=Qmg F;have k1:((F.length+1)*32≤140737488355328)=True:=eq_true (by omega);have k2:(F.length+1≤maxLen)=True:=eq_true (by unfold maxLen;omega);have hts:(F++[(⟨k,a,i,t⟩:Go.Dg.Fd)]).map fdV=F.map fdV++[.agg [.int .i64 k,.int .i64 a,.int .i64 i,.int .i64 t]]:=by rw [List.map_append];rfl
 unfold fdB;rw [hts];generalize F.map fdV=T at*;refine Qbc (tb:=[]) 17 [] [0,1,2,3,4] mixed Tryz.func48 rfl (by kernel_rfl) (by kernel_rfl) (by kernel_rfl) (by kernel_rfl) (by rfl) ?_;repeat simp -implicitDefEqProofs only [go_sem,seval,hlt,hok,k1,k2]
 refine Qa2 (.inr rfl) ?_;simp -implicitDefEqProofs only [go_sem];refine Qaj (θ:=[(1000000,1000000),(1000001,1000001),(9,7)]) rfl ?_ ?_
 ·simp [Qac,lkp,ren1,ren0,Qah]
 ·exact⟨⟨rfl,rfl,rfl,rfl,rfl,.inr ⟨rfl,_,_,rfl,rfl,rfl,rfl⟩⟩,⟨rfl,rfl,rfl,rfl,rfl,.inl ⟨rfl,rfl⟩⟩,⟨rfl,rfl,rfl,rfl,rfl,.inl ⟨rfl,rfl⟩⟩,trivial⟩
theorem Zw8 (F:List Go.Dg.Fd) (i t a s:Int) (w:Int) (hw:IntKind.i64.wrap (t-s)=w) (hl:F.length≤1000000):Qbv Tryz.prog 51 [.int .i64 i,.int .i64 t,.bp 1000000 1 0 0,.rp [.int .i64 a],.rp [.int .i64 s]] [(1000000,adB 1000001),(1000001,ouB 1000002 F.length),(1000002,fdB F)] (.tup [])
  [(1000000,adB 1000001),(1000001,ouB 9 (F.length+1)),(1000002,fdD),(9,fdB (F++[⟨5,a,i,w⟩]))]:=by
 have h:=Zoa F 5 a i w hl;generalize F++[(⟨5,a,i,w⟩:Go.Dg.Fd)]=G at*;have ble7:Nat.ble 1000000 1000002=true:=rfl

 refine Qbc (tb:=[(6,[(1000000,1000001),(1000001,1000002)],[(9,9)])]) 14 [] [0,1,2,3,4] mixed Tryz.func51 rfl (by kernel_rfl) (by kernel_rfl) (by kernel_rfl) (by kernel_rfl) (by rfl) ?_;repeat (first|simp -implicitDefEqProofs only [go_sem,seval,hw,bl13,bl14,bl9]|(with_reducible refine Qai h ?_ ?_ ?_ ?_);rfl;rfl;rfl)
 refine Qa2 (.inr rfl) ?_;simp -implicitDefEqProofs only [go_sem];refine Qaj (θ:=[(1000000,1000000),(1000001,1000001),(1000002,1000002),(9,9)]) rfl ?_ ?_
 ·simp [Qac,lkp,ren1,ren0,Qah]
 ·exact⟨⟨rfl,rfl,rfl,rfl,rfl,.inr ⟨rfl,_,_,rfl,rfl,rfl,rfl⟩⟩,⟨rfl,rfl,rfl,rfl,rfl,.inr ⟨rfl,_,_,rfl,rfl,rfl,rfl⟩⟩,⟨rfl,rfl,rfl,rfl,rfl,.inl ⟨rfl,rfl⟩⟩,⟨rfl,rfl,rfl,rfl,rfl,.inl ⟨rfl,rfl⟩⟩,trivial⟩
end Go.Proofs.YtnohfmdlaajpbaaGreat
