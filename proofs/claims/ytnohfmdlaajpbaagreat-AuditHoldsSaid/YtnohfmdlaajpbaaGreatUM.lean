/-
  UL2, UM (merged for the claim).
-/
import Derived.Test.YtnohfmdlaajpbaaGreatUL
import Derived.Orders
import Derived.TacticsIn
set_option linter.unusedSimpArgs false
set_option linter.unusedVariables false
namespace Go.Vl
open Go.RowKit

theorem Qce {α:Type}: ∀{l:List (Nat×α)} {k:Nat} {v:α},lkp l k=some v→(k,v)∈l
  | [],_,_,h=>by cases h
  |(j,x)::l,k,v,h=>by
    unfold lkp at h;split at h
    · rename_i e;cases h;simp [e]
    · exact List.mem_cons_of_mem _ (Qce h)
theorem Qwr {α:Type}: ∀{l:List (Nat×α)} {k:Nat} {v:α},(k,v)∈l→ ∃u,lkp l k=some u
  |(j,x)::l,k,v,h=>by
    unfold lkp;split
    · exact⟨x,rfl⟩
    · rename_i hne;rcases List.mem_cons.1 h with e|e
      · cases e;exact absurd rfl hne
      · exact Qwr e
theorem Qkd {α:Type}: ∀(l m:List (Nat×α)) (k:Nat),lkp (l++m) k=match lkp l k with|some v=>some v|none=>lkp m k
  | [],_,_=>rfl
  |(j,x)::l,m,k=>by
    simp only [List.cons_append,lkp];split
    · rfl
    · exact Qkd l m k
theorem Qnh: ∀{l:List (Nat×Nat)} {b b':Nat},rlk l b=some b'→(b',b)∈l
  | [],_,_,h=>by cases h
  |(j,x)::l,k,v,h=>by
    unfold rlk at h;split at h
    · rename_i e;cases h;simp [e]
    · exact List.mem_cons_of_mem _ (Qnh h)

theorem Qdz {κ:List (Nat×Nat)} (h:Qi2 κ=true) {b' b:Nat} (hm:(b',b)∈κ):lkp κ b'=some b∧rlk κ b=some b':=by
  have:=List.all_eq_true.1 h _ hm;simpa using this
theorem Qbt {κ:List (Nat×Nat)} (h:Qi2 κ=true) {b' b:Nat}:lkp κ b'=some b↔rlk κ b=some b':=
  ⟨fun e=>(Qdz h (Qce e)).2,fun e=>(Qdz h (Qnh e)).1⟩

section
variable {w:World} {im im2:Im} {ρ ρ2:Rho} {κ:List (Nat×Nat)}

theorem Qy2 (hρ: ∀b c x,lkp κ b=some c→ρ b=some x→ρ2 c=some x) {v v':PV} {u:Value} (hr:ren0 κ v=some v') (h:LR w im ρ v u):LR w im ρ2 v' u:=by
  unfold ren0 at hr;split at hr
  · rename_i b esz i off;split at hr
    · rename_i c hb;cases hr;obtain⟨g,hg,rfl⟩:=h.bp_inv;exact .bp _ _ _ _ g _ (hρ _ _ _ hb hg) rfl
    · cases hr
  · rename_i b esz off len;split at hr
    · rename_i c hb;cases hr;rcases h.bs_inv with⟨e,⟨x,rfl⟩,rfl,rfl⟩|⟨g,cap,cur,e,hg,rfl,ho,hc,hl,hm⟩
      · exact .bsNil _ _ x (hρ _ _ _ hb e)
      · exact .bs _ _ _ _ g _ cap cur e (hρ _ _ _ hb hg) ho rfl hc hl hm
    · cases hr
  · rename_i b;split at hr
    · rename_i c hb;cases hr;obtain⟨g,hg,rfl⟩:=h.mp_inv;exact .mp _ g (hρ _ _ _ hb hg)
    · cases hr
  · cases hr;obtain⟨a,b,rfl,h1,h2⟩:=h.fn_inv;cases h1.nil_inv;cases h2.nil_inv;exact .ext _ _ (.fn _ [] [] [] [] .nil .nil)
  · cases hr
  · cases hr
  · cases hr
  · rename_i n1 n2 n3 n4 n5 n6 n7;cases hr;cases h with
    |ext _ _ h=>exact .ext _ _ h
    |undef u=>exact .undef u
    |bp=>exact absurd rfl (n1 _ _ _ _)
    |bsNil=>exact absurd rfl (n2 _ _ _ _)
    |bs=>exact absurd rfl (n2 _ _ _ _)
    |mp=>exact absurd rfl (n3 _)
    |agg=>exact absurd rfl (n6 _)
    |tup=>exact absurd rfl (n7 _)
    |fn=>exact absurd rfl (n5 _ _ _)
theorem Qjj (hρ: ∀b c x,lkp κ b=some c→ρ b=some x→ρ2 c=some x): ∀{vs vs':List PV} {us:List Value},Qah κ vs=some vs'→LRL w im ρ vs us→LRL w im ρ2 vs' us
  | [],vs',us,hr,h=>by simp [Qah]at hr;subst hr;cases h.nil_inv;exact .nil
  |v::vs,vs',us,hr,h=>by
    unfold Qah at hr;split at hr
    · cases hr
    · rename_i x hx;split at hr
      · cases hr
      · rename_i xs hxs;cases hr;obtain⟨u,us',rfl,h1,h2⟩:=h.cons_inv;exact .cons _ _ _ _ (Qy2 hρ hx h1) (Qjj hρ hxs h2)
theorem Qy3 (hρ: ∀b c x,lkp κ b=some c→ρ b=some x→ρ2 c=some x) {v v':PV} {u:Value} (hr:ren1 κ v=some v') (h:LR w im ρ v u):LR w im ρ2 v' u:=by
  unfold ren1 at hr;split at hr
  · split at hr
    · rename_i xs hxs;cases hr;obtain⟨us,rfl,h1⟩:=h.agg_inv;exact .agg _ _ (Qjj hρ hxs h1)
    · cases hr
  · cases hr;obtain⟨us,rfl,h1⟩:=h.tup_inv;cases h1.nil_inv;exact .ext _ _ (.tup [] [] .nil)
  · split at hr
    · cases hr
    · rename_i x hx;split at hr
      · cases hr
      · rename_i y hy;cases hr;obtain⟨a,b,rfl,h1,h2⟩:=h.fn_inv;exact .fn _ _ _ _ _ (Qjj hρ hx h1) (Qjj hρ hy h2)
  · exact Qy2 hρ hr h
theorem Qts (hρ: ∀b c x,lkp κ b=some c→ρ b=some x→ρ2 c=some x): ∀{vs vs':List PV} {us:List Value},Qhn κ vs=some vs'→LRL w im ρ vs us→LRL w im ρ2 vs' us
  | [],vs',us,hr,h=>by simp [Qhn]at hr;subst hr;cases h.nil_inv;exact .nil
  |v::vs,vs',us,hr,h=>by
    unfold Qhn at hr;split at hr
    · cases hr
    · rename_i x hx;split at hr
      · cases hr
      · rename_i xs hxs;cases hr;obtain⟨u,us',rfl,h1,h2⟩:=h.cons_inv;exact .cons _ _ _ _ (Qy3 hρ hx h1) (Qts hρ hxs h2)
theorem Qy4 (hρ: ∀b c x,lkp κ b=some c→ρ b=some x→ρ2 c=some x) {v v':PV} {u:Value} (hr:ren2 κ v=some v') (h:LR w im ρ v u):LR w im ρ2 v' u:=by
  unfold ren2 at hr;split at hr
  · split at hr
    · rename_i xs hxs;cases hr;obtain⟨us,rfl,h1⟩:=h.tup_inv;exact .tup _ _ (Qts hρ hxs h1)
    · cases hr
  · exact Qy3 hρ hr h

/-! ### what is flat is so whatever is held -/
theorem Qtt {v:PV} {u:Value} (hf:flatc v=true) (h:LR w im ρ v u):Rep w im2 v u:=by
  cases v<;>first
    |(simp [flatc]at hf;done)
    |(cases h with|ext _ _ h=>cases h<;>constructor)
theorem Qpc: ∀{vs:List PV} {us:List Value},vs.all flatc=true→LRL w im ρ vs us→RepL w im2 vs us
  | [],_,_,.nil=> .nil
  |v::vs,_,hf,.cons _ u _ us h t=>by
    simp only [List.all_cons,Bool.and_eq_true]at hf;exact .cons _ _ _ _ (Qtt hf.1 h) (Qpc hf.2 t)
theorem Qtu {v:PV} {u:Value} (hf:Qs0 v=true) (h:LR w im ρ v u):LR w im2 ρ v u:=by
  cases v with
  |bs b e o l=>
    rcases h.bs_inv with⟨e1,⟨x,rfl⟩,rfl,rfl⟩|⟨g,cap,cur,e1,hg,rfl,ho,hc,hl,hm⟩
    · exact .bsNil _ _ x e1
    · exact .bs _ _ _ _ g _ cap cur e1 hg ho rfl hc hl hm
  |bp b e i o=>obtain⟨g,hg,rfl⟩:=h.bp_inv;exact .bp _ _ _ _ g _ hg rfl
  |_=>exact .ext _ _ (Qtt hf h)
theorem Qpd: ∀{vs:List PV} {us:List Value},vs.all Qs0=true→LRL w im ρ vs us→LRL w im2 ρ vs us
  | [],_,_,.nil=> .nil
  |v::vs,_,hf,.cons _ u _ us h t=>by
    simp only [List.all_cons,Bool.and_eq_true]at hf;exact .cons _ _ _ _ (Qtu hf.1 h) (Qpd hf.2 t)
theorem Qtv {v:PV} {u:Value} (hf:Qs1 v=true) (h:LR w im ρ v u):LR w im2 ρ v u:=by
  cases v with
  |agg cs=>obtain⟨us,rfl,h1⟩:=h.agg_inv;exact .agg _ _ (Qpd hf h1)
  |_=>exact Qtu hf h
theorem Qpe: ∀{vs:List PV} {us:List Value},vs.all Qs1=true→LRL w im ρ vs us→LRL w im2 ρ vs us
  | [],_,_,.nil=> .nil
  |v::vs,_,hf,.cons _ u _ us h t=>by
    simp only [List.all_cons,Bool.and_eq_true]at hf;exact .cons _ _ _ _ (Qtv hf.1 h) (Qpe hf.2 t)
theorem Zmy {v:PV} {u:Value} (hf:flatr v=true) (h:LR w im ρ v u):LR w im2 ρ v u:=by
  cases v with
  |tup cs=>obtain⟨us,rfl,h1⟩:=h.tup_inv;exact .tup _ _ (Qpe hf h1)
  |_=>exact Qtv hf h

theorem Qes {v:PV} {u:Value} (hf:Qct v=true) (h:LR w im ρ v u):Rep w im v u:=by
  unfold Qct at hf;split at hf<;>first
    |(cases h with|ext _ _ h=>exact h)
    |(obtain⟨a,b,rfl,h1,h2⟩:=h.fn_inv
      cases h1.nil_inv;cases h2.nil_inv;exact .fn _ [] [] [] [] .nil .nil)
    |(cases hf;done)
theorem Qk1: ∀{vs:List PV} {us:List Value},vs.all Qct=true→LRL w im ρ vs us→RepL w im vs us
  | [],_,_,.nil=> .nil
  |v::vs,_,hf,.cons _ u _ us h t=>by
    simp only [List.all_cons,Bool.and_eq_true]at hf;exact .cons _ _ _ _ (Qes hf.1 h) (Qk1 hf.2 t)
theorem Box.ext_rep {B:Box} {us:List Value} (he:B.ext=true) (h:LRL w im ρ (B.els.flatMap PV.cells) us) (ha:B.arr=true→RepL w im (B.els.flatMap PV.cells) us):RepL w im (B.els.flatMap PV.cells) us:=by
  simp only [Box.ext,Bool.or_eq_true]at he;rcases he with e|e
  · exact ha e
  · exact Qk1 e h
end

/-! ### lending -/
theorem Qhv {θF:List (Nat×Nat)}: ∀{θ:List (Nat×Nat)} {bx:Bx} {bxs:List (Nat×Box)} {l:Acc},Qgk θF θ bx=some (bxs,l)→
    (∀x,lkp bxs x=(lkp θ x).bind fun b=>(bx b).bind (Qgj θF))∧ ∀p∈θ,∃B B',bx p.2=some B∧Qgj θF B=some B'∧B.live=true∧LENT≤p.1
  | [],bx,bxs,l,h=>by
    obtain⟨e,_⟩:=M.pure_some h;subst e;exact⟨fun x=>rfl,by simp⟩
  |(b',b)::θ,bx,bxs,l,h=>by
    obtain⟨Bo,_,_,e1,e2,_⟩:=M.bind_some h;obtain⟨rfl,_⟩:=M.hard_some e1;obtain⟨B,_,_,e3,e4,_⟩:=M.bind_some e2;obtain⟨c1,_⟩:=M.ofOpt_some e3;obtain⟨_,_,_,e5,e6,_⟩:=M.bind_some e4;obtain⟨c2,_⟩:=M.ok_some e5;obtain⟨B',_,_,e7,e8,_⟩:=M.bind_some e6;obtain⟨c3,_⟩:=M.ofOpt_some e7;obtain⟨bs,_,_,e9,e10,_⟩:=M.bind_some e8;obtain⟨e11,_⟩:=M.pure_some e10;subst e11;obtain⟨k1,k2⟩:=Qhv e9;simp only [Bool.and_eq_true]at c2;refine⟨fun x=> ?_,?_⟩
    · simp only [lkp];by_cases hx:x=b'
      · simp [hx,c1,c3]
      · simp only [hx,if_false];exact k1 x
    · intro p hp;rcases List.mem_cons.1 hp with rfl|hp
      · exact⟨B,B',c1,c3,c2.1,Nat.le_of_ble_eq_true c2.2⟩
      · exact k2 p hp

section
variable {w:World} {im:Im} {ρ:Rho} {θ:List (Nat×Nat)}
def rhoC (θ:List (Nat×Nat)) (ρ:Rho):Rho:=fun b'=>(lkp θ b').bind ρ

theorem Q2v (hθ: ∀b b',rlk θ b=some b'→lkp θ b'=some b) {v x:PV} {u:Value} (hl:Qmy θ v=some x) (h:LR w im ρ v u):LR w im (rhoC θ ρ) x u:=by
  cases v with
  |bp b esz i off=>
    simp only [Qmy]at hl;split at hl
    · rename_i b' hb;cases hl;obtain⟨g,hg,rfl⟩:=h.bp_inv;exact .bp _ _ _ _ g _ (by simp [rhoC,hθ _ _ hb,hg]) rfl
    · cases hl
  |_=>
    simp only [Qmy]at hl;split at hl
    · rename_i he;cases hl;exact .ext _ _ (Qes he h)
    · cases hl
theorem Qni (hθ: ∀b b',rlk θ b=some b'→lkp θ b'=some b): ∀{vs xs:List PV} {us:List Value},Qi3 θ vs=some xs→LRL w im ρ vs us→LRL w im (rhoC θ ρ) xs us
  | [],xs,us,hl,h=>by cases hl;cases h.nil_inv;exact .nil
  |v::vs,xs,us,hl,h=>by
    obtain⟨u,us',rfl,h1,h2⟩:=h.cons_inv;unfold Qi3 at hl;split at hl
    · cases hl
    · rename_i x hx;split at hl
      · cases hl
      · rename_i ys hy;cases hl;exact .cons _ _ _ _ (Q2v hθ hx h1) (Qni hθ hy h2)
theorem Qnj (hθ: ∀b b',rlk θ b=some b'→lkp θ b'=some b) {v x:PV} {u:Value} (hl:Qc9 θ v=some x) (h:LR w im ρ v u):LR w im (rhoC θ ρ) x u∧x.cells.length=1:=by
  have ext:Qct v=true→some v=some x→LR w im (rhoC θ ρ) x u∧x.cells.length=1:=by
    intro he e;cases e;refine⟨.ext _ _ (Qes he h),?_⟩;cases v<;>first|rfl|cases he
  cases v with
  |bs b esz off len=>
    simp only [Qc9]at hl;split at hl
    · rename_i b' hb;cases hl;have hr: ∀y,ρ b=some y→rhoC θ ρ b'=some y:=fun y e=>by simp [rhoC,hθ _ _ hb,e]
      rcases h.bs_inv with⟨e,⟨x,rfl⟩,rfl,rfl⟩|⟨g,cap,cur,e,hg,rfl,ho,hc,hlc,hm⟩
      · exact⟨.bsNil _ _ x (hr _ e),rfl⟩
      · exact⟨.bs _ _ _ _ g _ cap cur e (hr _ hg) ho rfl hc hlc hm,rfl⟩
    · cases hl
  |fn f a c=>
    cases a with
    |nil=>
      simp only [Qc9]at hl;split at hl
      · rename_i xs hxs;cases hl;obtain⟨ua,ub,rfl,h1,h2⟩:=h.fn_inv;cases h1.nil_inv;exact⟨.fn _ _ _ _ _ .nil (Qni hθ hxs h2),rfl⟩
      · cases hl
    |cons y ys=>
      simp only [Qc9]at hl;split at hl
      · rename_i he;cases he
      · cases hl
  |_=>
    simp only [Qc9]at hl;split at hl
    · rename_i he;exact ext he hl
    · cases hl
theorem Qk2 (hθ: ∀b b',rlk θ b=some b'→lkp θ b'=some b): ∀{vs xs:List PV} {us:List Value},Qgi θ vs=some xs→LRL w im ρ vs us→LRL w im (rhoC θ ρ) xs us∧xs.length=vs.length
  | [],xs,us,hl,h=>by cases hl;cases h.nil_inv;exact⟨.nil,rfl⟩
  |v::vs,xs,us,hl,h=>by
    obtain⟨u,us',rfl,h1,h2⟩:=h.cons_inv;unfold Qgi at hl;split at hl
    · cases hl
    · rename_i x hx;split at hl
      · cases hl
      · rename_i ys hy;cases hl;obtain⟨k1,k2⟩:=Qk2 hθ hy h2;exact⟨.cons _ _ _ _ (Qnj hθ hx h1).1 k1,by simp [k2]⟩
theorem Zcw (hθ: ∀b b',rlk θ b=some b'→lkp θ b'=some b) {v x:PV} {us:List Value} (hl:Qyr θ v=some x) (h:LRL w im ρ v.cells us):LRL w im (rhoC θ ρ) x.cells us∧x.cells.length=v.cells.length:=by
  have one:v.cells=[v]→Qc9 θ v=some x→LRL w im (rhoC θ ρ) x.cells us∧x.cells.length=v.cells.length:=by
    intro hc hl;rw [hc]at h ⊢;obtain⟨u,rfl,h1⟩:=h.one_inv;obtain⟨k1,k2⟩:=Qnj hθ hl h1;have hx:x.cells=[x]:=by
      cases v with
      |fn f a c=>
        cases a with
        |nil=>
          simp only [Qc9]at hl;split at hl
          · cases hl;rfl
          · cases hl
        |cons y ys=>
          simp only [Qc9]at hl;split at hl
          · rename_i he;cases he
          · cases hl
      |_=>simp only [Qc9]at hl;(first|(split at hl<;>cases hl<;>first|rfl|(rename_i he;cases he))|cases hl)
    rw [hx];exact⟨.cons _ _ _ _ k1 .nil,rfl⟩
  cases v with
  |agg cs=>
    simp only [Qyr]at hl;split at hl
    · rename_i xs hxs;cases hl;exact Qk2 hθ hxs h
    · cases hl
  |_=>exact one rfl hl
theorem Qpf (hθ: ∀b b',rlk θ b=some b'→lkp θ b'=some b): ∀{vs xs:List PV} {us:List Value} {z:Nat},Qmz θ vs=some xs→LRL w im ρ (vs.flatMap PV.cells) us→(∀e∈vs,e.cells.length=z)→
    LRL w im (rhoC θ ρ) (xs.flatMap PV.cells) us∧xs.length=vs.length∧ ∀e∈xs,e.cells.length=z
  | [],xs,us,z,hl,h,_=>by cases hl;cases h.nil_inv;exact⟨.nil,rfl,by simp⟩
  |v::vs,xs,us,z,hl,h,hz=>by
    rw [List.flatMap_cons]at h;obtain⟨u1,u2,rfl,h1,h2⟩:=h.split;unfold Qmz at hl;split at hl
    · cases hl
    · rename_i x hx;split at hl
      · cases hl
      · rename_i ys hy;cases hl;obtain⟨k1,k2,k3⟩:=Qpf hθ hy h2 (fun e he=>hz e (List.mem_cons_of_mem _ he));obtain⟨m1,m2⟩:=Zcw hθ hx h1;refine⟨by rw [List.flatMap_cons];exact m1.append k1,by simp [k2],fun e he=> ?_⟩;rcases List.mem_cons.1 he with rfl|he
        · rw [m2];exact hz v List.mem_cons_self
        · exact k3 e he
theorem Q2w (hθ: ∀b b',rlk θ b=some b'→lkp θ b'=some b) {own own':Nat→Prop} {B B':Box} {x:Option Nat} (hl:Qgj θ B=some B') (h:Qda own w im ρ B x) (ho: ∀g,x=some g→own' g):Qda own' w im (rhoC θ ρ) B' x:=by
  unfold Qgj at hl;split at hl
  · rename_i hext;cases hl;cases x with
    |none=>exact h
    |some g=>
      obtain⟨h1,h2,h3,h4,⟨hmn,cur,us,rest,h5,h6,h7,h8,h9,h10,h11⟩|hm⟩:=h
      case inr=>exact⟨ho g rfl,h2,h3,h4,.inr hm⟩
      have hr:=Box.ext_rep hext h7 h8;exact⟨ho g rfl,h2,h3,h4,.inl ⟨hmn,cur,us,rest,h5,h6,hr.toLRL,fun _=>hr,h9,h10,h11⟩⟩
  · split at hl
    · cases hl
    · rename_i ha;split at hl
      · rename_i els he;cases hl;cases x with
        |none=>exact absurd h.2.1 ha
        |some g=>
          obtain⟨h1,h2,h3,h4,⟨hmn,cur,us,rest,h5,h6,h7,h8,h9,h10,h11⟩|hm⟩:=h
          case inr=>exact absurd hm.2.1 ha
          obtain⟨k1,k2,k3⟩:=Qpf hθ he h7 h4;exact⟨ho g rfl,by simpa [k2]using h2,h3,k3,.inl ⟨hmn,cur,us,rest,h5,h6,k1,fun(e:B.arr=true)=>absurd e ha,h9,h10,h11⟩⟩
      · cases hl
theorem Qk3 {B B':Box} (hl:Qgj θ B=some B'):B'.live=B.live:=by
  unfold Qgj at hl;split at hl
  · cases hl;rfl
  · split at hl
    · cases hl
    · split at hl<;>cases hl;rfl
end
theorem Qk4: ∀{ν:List (Nat×Nat)} {bx:Bx} {u:Unit} {l:Acc},Qm0 ν bx=some (u,l)→ ∀p∈ν,bx p.2=none∧p.2<LENT
  | [],_,_,_,_=>by simp
  |(b',b)::ν,bx,u,l,h=>by
    obtain⟨Bo,_,_,e1,e2,_⟩:=M.bind_some h;obtain⟨rfl,_⟩:=M.hard_some e1;obtain⟨_,_,_,e5,e6,_⟩:=M.bind_some e2;obtain⟨c2,_⟩:=M.ok_some e5;simp only [Bool.and_eq_true,Option.isNone_iff_eq_none]at c2;intro p hp;rcases List.mem_cons.1 hp with rfl|hp
    · exact⟨c2.1,Nat.le_of_ble_eq_true c2.2⟩
    · exact Qk4 e6 p hp

section
variable {C:Ctx} {a:Act} {w:World} {ρ:Rho} {bx:Bx} {θ:List (Nat×Nat)}

/-- our places,under the call's names -/

theorem Zcx (hθ: ∀b b',rlk θ b=some b'→lkp θ b'=some b) {st:St} {im:Im} (h:Rel' C st a w ρ im) (hs:Qcx bx st) {v y:PV} {u:Value} {es:List Eff} {l:Acc} (hv:LR w im ρ v u) (he:Q2h θ v bx=some ((y,es),l)):
    ∃im',Gone C st (Qan es st) a w ρ im im' bx∧LR w im' (rhoC θ ρ) y u:=by
  have plain: ∀{v},LR w im ρ v u→escC v bx=some ((y,es),l)→ ∃im',Gone C st (Qan es st) a w ρ im im' bx∧LR w im' (rhoC θ ρ) y u:=fun hv he=>
    let ⟨im',g,r⟩:=Qjd h hs hv he
    ⟨im',g,.ext _ _ r⟩
  unfold Q2h at he;split at he
  · rename_i b esz off len;cases hb:rlk θ b with
    |none=>simp only [hb]at he;exact plain hv he
    |some b'=>
      simp only [hb]at he;obtain⟨e,_⟩:=M.pure_some he;cases e;have hl:=hθ _ _ hb;refine⟨im,Gone.refl h hs,?_⟩;rcases hv.bs_inv with⟨e,⟨x,rfl⟩,rfl,rfl⟩|⟨g,cap,cur,e,hg,rfl,ho,hc,hlc,hm⟩
      · exact .bsNil _ _ x (by simp [rhoC,hl,e])
      · exact .bs _ _ _ _ g _ cap cur e (by simp [rhoC,hl,hg]) ho rfl hc hlc hm
  · rename_i b esz i off;cases hb:rlk θ b with
    |none=>simp only [hb]at he;exact plain hv he
    |some b'=>
      simp only [hb]at he;obtain⟨e,_⟩:=M.pure_some he;cases e;have hl:=hθ _ _ hb;refine⟨im,Gone.refl h hs,?_⟩;obtain⟨g,hg,rfl⟩:=hv.bp_inv;exact .bp _ _ _ _ g _ (by simp [rhoC,hl,hg]) rfl
  · exact plain hv he
theorem Qpg (hθ: ∀b b',rlk θ b=some b'→lkp θ b'=some b): ∀{st:St} {im:Im} (_:Rel' C st a w ρ im) (_:Qcx bx st) {vs ys:List PV} {us:List Value} {es:List Eff} {l:Acc} (_:LRL w im ρ vs us)
    (_:Qo3 θ vs bx=some ((ys,es),l)),∃im',Gone C st (Qan es st) a w ρ im im' bx∧LRL w im' (rhoC θ ρ) ys us:=by
  intro st im h hs vs
  induction vs generalizing st im with
  |nil=>
    intro ys us es l hv he;obtain⟨e,_⟩:=M.pure_some he;cases e;cases hv.nil_inv;exact⟨im,Gone.refl h hs,.nil⟩
  |cons v vs ih=>
    intro ys us es l hv he;obtain⟨u,us',rfl,h1,h2⟩:=hv.cons_inv;obtain⟨⟨y,e1⟩,l1,l2,k1,k2,_⟩:=M.bind_some he;obtain⟨⟨ys',e2⟩,l3,l4,k3,k4,_⟩:=M.bind_some k2;obtain⟨k5,_⟩:=M.pure_some k4;cases k5;obtain⟨im1,g1,r1⟩:=Zcx hθ h hs h1 k1;obtain⟨im2,g2,r2⟩:=ih g1.rel g1.soft (h2.mono (Keeps.refl _ _) g1.im fun _ _ x=>x) k3;refine⟨im2,by rw [Qav];exact g1.trans g2,.cons _ _ _ _ (r1.mono (Keeps.refl _ _) g2.im fun _ _ x=>x) r2⟩

theorem Zcy (hθ: ∀b b',rlk θ b=some b'→lkp θ b'=some b) {st:St} {im:Im} (h:Rel' C st a w ρ im) (hs:Qcx bx st) {v y:PV} {u:Value} {es:List Eff} {l:Acc} (hv:LR w im ρ v u) (he:Q2i θ v bx=some ((y,es),l)):
    ∃im',Gone C st (Qan es st) a w ρ im im' bx∧LR w im' (rhoC θ ρ) y u:=by
  have plain: ∀{v},LR w im ρ v u→esc1 v bx=some ((y,es),l)→ ∃im',Gone C st (Qan es st) a w ρ im im' bx∧LR w im' (rhoC θ ρ) y u:=fun hv he=>
    let ⟨im',g,r⟩:=Qqx h hs hv he
    ⟨im',g,.ext _ _ r⟩
  unfold Q2i at he;split at he
  · rename_i b esz off len;cases hb:rlk θ b with
    |none=>simp only [hb]at he;exact plain hv he
    |some b'=>
      simp only [hb]at he;obtain⟨e,_⟩:=M.pure_some he;cases e;have hl:=hθ _ _ hb;refine⟨im,Gone.refl h hs,?_⟩;rcases hv.bs_inv with⟨e,⟨x,rfl⟩,rfl,rfl⟩|⟨g,cap,cur,e,hg,rfl,ho,hc,hlc,hm⟩
      · exact .bsNil _ _ x (by simp [rhoC,hl,e])
      · exact .bs _ _ _ _ g _ cap cur e (by simp [rhoC,hl,hg]) ho rfl hc hlc hm
  · rename_i b esz i off;cases hb:rlk θ b with
    |none=>simp only [hb]at he;exact plain hv he
    |some b'=>
      simp only [hb]at he;obtain⟨e,_⟩:=M.pure_some he;cases e;have hl:=hθ _ _ hb;refine⟨im,Gone.refl h hs,?_⟩;obtain⟨g,hg,rfl⟩:=hv.bp_inv;exact .bp _ _ _ _ g _ (by simp [rhoC,hl,hg]) rfl
  · obtain⟨⟨ys,e1⟩,l1,l2,k1,k2,_⟩:=M.bind_some he;obtain⟨⟨ys',e2⟩,l3,l4,k3,k4,_⟩:=M.bind_some k2;obtain⟨k5,_⟩:=M.pure_some k4;cases k5;obtain⟨p,q,rfl,hp,hq⟩:=hv.fn_inv;obtain⟨im1,g1,r1⟩:=Qpg hθ h hs hp k1;obtain⟨im2,g2,r2⟩:=Qpg hθ g1.rel g1.soft (hq.mono (Keeps.refl _ _) g1.im fun _ _ x=>x) k3;exact⟨im2,by rw [Qav];exact g1.trans g2,.fn _ _ _ _ _ (r1.mono (Keeps.refl _ _) g2.im fun _ _ x=>x) r2⟩
  · obtain⟨e,_⟩:=M.pure_some he;cases e;refine⟨im,Gone.refl h hs,?_⟩;cases hv with
    |ext _ _ r=>exact .ext _ _ r
  · exact plain hv he

theorem Zcz (hθ: ∀b b',rlk θ b=some b'→lkp θ b'=some b): ∀{st:St} {im:Im} (_:Rel' C st a w ρ im) (_:Qcx bx st) {vs ys:List PV} {us:List Value} {es:List Eff} {l:Acc} (_:LRL w im ρ vs us)
    (_:Zcd θ vs bx=some ((ys,es),l)),∃im',Gone C st (Qan es st) a w ρ im im' bx∧LRL w im' (rhoC θ ρ) ys us:=by
  intro st im h hs vs
  induction vs generalizing st im with
  |nil=>
    intro ys us es l hv he;obtain⟨e,_⟩:=M.pure_some he;cases e;cases hv.nil_inv;exact⟨im,Gone.refl h hs,.nil⟩
  |cons v vs ih=>
    intro ys us es l hv he;obtain⟨u,us',rfl,h1,h2⟩:=hv.cons_inv;obtain⟨⟨y,e1⟩,l1,l2,k1,k2,_⟩:=M.bind_some he;obtain⟨⟨ys',e2⟩,l3,l4,k3,k4,_⟩:=M.bind_some k2;obtain⟨k5,_⟩:=M.pure_some k4;cases k5;obtain⟨im1,g1,r1⟩:=Zcy hθ h hs h1 k1;obtain⟨im2,g2,r2⟩:=ih g1.rel g1.soft (h2.mono (Keeps.refl _ _) g1.im fun _ _ x=>x) k3;refine⟨im2,by rw [Qav];exact g1.trans g2,.cons _ _ _ _ (r1.mono (Keeps.refl _ _) g2.im fun _ _ x=>x) r2⟩

/-! ### what comes back -/
theorem Q2x {w:World} {im im2:Im} {ρ ρ2:Rho} {κ:List (Nat×Nat)} (hi: ∀g j,im g j→im2 g j) (hρ: ∀b b' x,lkp κ b=some b'→ρ b=some x→ρ2 b'=some x) {v x:PV} {u:Value} (hl:Qm1 κ v=some x) (h:LR w im ρ v u):LR w im2 ρ2 x u:=by
  cases v with
  |bp b esz i off=>
    simp only [Qm1]at hl;split at hl
    · rename_i b' hb;cases hl;obtain⟨g,hg,rfl⟩:=h.bp_inv;exact .bp _ _ _ _ g _ (hρ _ _ _ hb hg) rfl
    · cases hl
  |_=>
    simp only [Qm1]at hl;split at hl
    · rename_i he;cases hl;exact .ext _ _ ((Qes he h).mono (fun _ _ _=>rfl) hi)
    · cases hl
theorem Qnk {w:World} {im im2:Im} {ρ ρ2:Rho} {κ:List (Nat×Nat)} (hi: ∀g j,im g j→im2 g j) (hρ: ∀b b' x,lkp κ b=some b'→ρ b=some x→ρ2 b'=some x): ∀{vs xs:List PV} {us:List Value},Qi4 κ vs=some xs→LRL w im ρ vs us→LRL w im2 ρ2 xs us
  | [],xs,us,hl,h=>by cases hl;cases h.nil_inv;exact .nil
  |v::vs,xs,us,hl,h=>by
    obtain⟨u,us',rfl,h1,h2⟩:=h.cons_inv;unfold Qi4 at hl;split at hl
    · cases hl
    · rename_i x hx;split at hl
      · cases hl
      · rename_i ys hy;cases hl;exact .cons _ _ _ _ (Q2x hi hρ hx h1) (Qnk hi hρ hy h2)
theorem Qnl {w:World} {im im2:Im} {ρ ρ2:Rho} {κ:List (Nat×Nat)} (hi: ∀g j,im g j→im2 g j) (hρ: ∀b b' x,lkp κ b=some b'→ρ b=some x→ρ2 b'=some x) {v x:PV} {u:Value} (hl:Qdq κ v=some x) (h:LR w im ρ v u):LR w im2 ρ2 x u∧x.cells=[x]:=by
  have ext:Qct v=true→some v=some x→LR w im2 ρ2 x u∧x.cells=[x]:=by
    intro he e;cases e;refine⟨.ext _ _ ((Qes he h).mono (fun _ _ _=>rfl) hi),?_⟩;cases v<;>first|rfl|cases he
  cases v with
  |bs b esz off len=>
    simp only [Qdq]at hl;split at hl
    · rename_i b' hb;cases hl;rcases h.bs_inv with⟨e,⟨x,rfl⟩,rfl,rfl⟩|⟨g,cap,cur,e,hg,rfl,ho,hc,hlc,hm⟩
      · exact⟨.bsNil _ _ x (hρ _ _ _ hb e),rfl⟩
      · exact⟨.bs _ _ _ _ g _ cap cur e (hρ _ _ _ hb hg) ho rfl hc hlc hm,rfl⟩
    · cases hl
  |bp b esz i off=>
    simp only [Qdq]at hl;split at hl
    · rename_i b' hb;cases hl;obtain⟨g,hg,rfl⟩:=h.bp_inv;exact⟨.bp _ _ _ _ g _ (hρ _ _ _ hb hg) rfl,rfl⟩
    · cases hl
  |fn f a c=>
    cases a with
    |nil=>
      simp only [Qdq]at hl;split at hl
      · rename_i xs hxs;cases hl;obtain⟨ua,ub,rfl,h1,h2⟩:=h.fn_inv;cases h1.nil_inv;exact⟨.fn _ _ _ _ _ .nil (Qnk hi hρ hxs h2),rfl⟩
      · cases hl
    |cons y ys=>
      simp only [Qdq]at hl;split at hl
      · rename_i he;cases he
      · cases hl
  |_=>
    simp only [Qdq]at hl;split at hl
    · rename_i he;exact ext he hl
    · cases hl
theorem Qk5 {w:World} {im im2:Im} {ρ ρ2:Rho} {κ:List (Nat×Nat)} (hi: ∀g j,im g j→im2 g j) (hρ: ∀b b' x,lkp κ b=some b'→ρ b=some x→ρ2 b'=some x): ∀{vs xs:List PV} {us:List Value},Qgl κ vs=some xs→LRL w im ρ vs us→LRL w im2 ρ2 xs us∧xs.length=vs.length
  | [],xs,us,hl,h=>by cases hl;cases h.nil_inv;exact⟨.nil,rfl⟩
  |v::vs,xs,us,hl,h=>by
    obtain⟨u,us',rfl,h1,h2⟩:=h.cons_inv;unfold Qgl at hl;split at hl
    · cases hl
    · rename_i x hx;split at hl
      · cases hl
      · rename_i ys hy;cases hl;obtain⟨k1,k2⟩:=Qk5 hi hρ hy h2;exact⟨.cons _ _ _ _ (Qnl hi hρ hx h1).1 k1,by simp [k2]⟩
theorem Zc0 {w:World} {im im2:Im} {ρ ρ2:Rho} {κ:List (Nat×Nat)} (hi: ∀g j,im g j→im2 g j) (hρ: ∀b b' x,lkp κ b=some b'→ρ b=some x→ρ2 b'=some x) {v x:PV} {us:List Value} (hl:Qys κ v=some x) (h:LRL w im ρ v.cells us):LRL w im2 ρ2 x.cells us∧x.cells.length=v.cells.length:=by
  have one:v.cells=[v]→Qdq κ v=some x→LRL w im2 ρ2 x.cells us∧x.cells.length=v.cells.length:=by
    intro hc hl;rw [hc]at h ⊢;obtain⟨u,rfl,h1⟩:=h.one_inv;obtain⟨k1,k2⟩:=Qnl hi hρ hl h1;rw [k2];exact⟨.cons _ _ _ _ k1 .nil,rfl⟩
  cases v with
  |agg cs=>
    simp only [Qys]at hl;split at hl
    · rename_i xs hxs;cases hl;exact Qk5 hi hρ hxs h
    · cases hl
  |_=>exact one rfl hl
theorem Qph {w:World} {im im2:Im} {ρ ρ2:Rho} {κ:List (Nat×Nat)} (hi: ∀g j,im g j→im2 g j) (hρ: ∀b b' x,lkp κ b=some b'→ρ b=some x→ρ2 b'=some x): ∀{vs xs:List PV} {us:List Value} {z:Nat},Qm2 κ vs=some xs→LRL w im ρ (vs.flatMap PV.cells) us→(∀e∈vs,e.cells.length=z)→
    LRL w im2 ρ2 (xs.flatMap PV.cells) us∧xs.length=vs.length∧ ∀e∈xs,e.cells.length=z
  | [],xs,us,z,hl,h,_=>by cases hl;cases h.nil_inv;exact⟨.nil,rfl,by simp⟩
  |v::vs,xs,us,z,hl,h,hz=>by
    rw [List.flatMap_cons]at h;obtain⟨u1,u2,rfl,h1,h2⟩:=h.split;unfold Qm2 at hl;split at hl
    · cases hl
    · rename_i x hx;split at hl
      · cases hl
      · rename_i ys hy;cases hl;obtain⟨k1,k2,k3⟩:=Qph hi hρ hy h2 (fun e he=>hz e (List.mem_cons_of_mem _ he));obtain⟨m1,m2⟩:=Zc0 hi hρ hx h1;refine⟨by rw [List.flatMap_cons];exact m1.append k1,by simp [k2],fun e he=> ?_⟩;rcases List.mem_cons.1 he with rfl|he
        · rw [m2];exact hz v List.mem_cons_self
        · exact k3 e he
theorem Qtw {κ:List (Nat×Nat)} {B B':Box} (hl:Qeq κ B=some B'):B'.live=B.live:=by
  unfold Qeq at hl;split at hl
  · cases hl;rfl
  · split at hl
    · cases hl
    · split at hl
      · cases hl;rfl
      · cases hl
theorem Qhw {κ:List (Nat×Nat)} (hκ:Qi2 κ=true): ∀{bxs:List (Nat×Box)} {es:List Eff},Qe8 κ bxs=some es→
    (∀b' B,lkp bxs b'=some B→ ∃B2,Qeq κ B=some B2)∧
    ∀st:St,(Qan es st).var=st.var∧(Qan es st).out=st.out∧(Qan es st).yl=st.yl∧ ∀b,(Qan es st).box b=match rlk κ b with|some b'=>(match lkp bxs b' with|some B=>Qeq κ B|none=>st.box b)|none=>st.box b
  | [],es,h=>by
    simp [Qe8]at h;subst h;refine⟨fun b' B h=>(by cases h),fun st=>⟨rfl,rfl,rfl,fun b=> ?_⟩⟩;simp only [Qbu,lkp];split<;>rfl
  |(b',B)::bs,es,h=>by
    unfold Qe8 at h;split at h
    · cases h
    · rename_i b hb;split at h
      · cases h
      rename_i B2 hB2;split at h
      · rename_i hc;split at h
        · rename_i es' hes;cases h;obtain⟨k1,k2⟩:=Qhw hκ hes;refine⟨?_,fun st=> ?_⟩
          · intro x B' hx;unfold lkp at hx;split at hx
            · rename_i e;cases hx;exact⟨B2,hB2⟩
            · exact k1 x B' hx
          · obtain⟨m1,m2,m3,m4⟩:=k2 (st.setBox b B2);rw [Qay];refine⟨m1,m2,m3,fun c=> ?_⟩;show(Qan es' (st.setBox b B2)).box c=_;rw [m4 c];have hn:lkp bs b'=none:=by simpa using hc
            cases hr:rlk κ c with
            |none=>
              simp only;have:c≠b:=by rintro rfl;rw [(Qbt hκ).1 hb]at hr;cases hr
              exact Qal _ _ _ _ this
            |some c'=>
              simp only [lkp];by_cases e:c'=b'
              · subst e;have:c=b:=by have:=(Qbt hκ).2 hr;rw [hb]at this;exact(Option.some.inj this).symm
                subst this;simp [hn,St.setBox,Qao,hB2]
              · have:c≠b:=by rintro rfl;rw [(Qbt hκ).1 hb]at hr;cases hr;exact e rfl
                simp only [e,if_false];cases lkp bs c' with
                |some B'=>rfl
                |none=>exact Qal _ _ _ _ this
        · cases h
      · cases h

end

theorem Rel'.turned {C:Ctx} {st:St} {a:Act} {w w':World} {ρ:Rho} {im:Im} {args:List PV} (h:Rel' C st a w ρ im) (ht:Turn C.X C.base ρ im w w') (hj:C.J (Own ρ) im (st.out++[args]) w'):
    Rel' C {st with out:=st.out++[args]} a w' ρ im where
  root:=⟨h.root.below.trans ht.lent,h.root.keep.trans ht.keep h.root.im0,h.root.im0,h.root.im1,h.root.rho0,hj,h.root.yl⟩
  nt:=h.nt
  dfr:=Qhe ht.keep h.dfr
  imc:=fun g j hi=>by rw [ht.keep.cell g j hi];exact h.imc g j hi
  var:=fun t v hv=>(h.var t v hv).mono ht.keep (fun _ _ x=>x) (fun _ _ x=>x)
  rho:=h.rho
  box:=fun b x B hx hB=>(h.box b x B hx hB).mono ht.keep (fun _ _ x=>x) (fun _ _ _ _ x=>x) (fun _ _ x=>x) fun _ g hg=>ht.own g ⟨b,by rw [hx,hg]⟩
  inj:=h.inj

theorem Qy5 {C:Ctx} {st:St} {a:Act} {w:World} {ρ:Rho} {im im1:Im} {θ ν:List (Nat×Nat)} (h:Rel' C st a w ρ im) (hi: ∀g j,im g j→im1 g j) (hκ:Qi2 (θ++ν)=true)
    (hlent: ∀p∈θ,∃B,st.box p.2=some B∧B.live=true) (hfree: ∀p∈ν,st.box p.2=none∧p.2<LENT) {r r':PV} {bxs':List (Nat×Box)} {ef:List Eff} (hl:land θ ν bxs' r=some (r',ef))
    {w':World} {ρ':Rho} {im':Im} {v:Value} (hst:Step (rhoC θ ρ) im1 w ρ' im' w') (himc: ∀g j,im' g j→ ∃u,w'.cell? ⟨g,j,none⟩=some u) (hbox:Boxes (Own ρ') w' im' ρ' (lkp bxs'))
    (hstay: ∀b x x',rhoC θ ρ b=some x→ρ' b=some x'→x'=x) (hrv:LR w' im' ρ' r v) (hF:(∀g j,im1 g j→im g j)∨Qj3 r bxs'=true):
    ∃ρ2 im2,Rel' C (Qan ef st) a w' ρ2 im2∧LR w' im2 ρ2 r' v:=by
  unfold land at hl;split at hl
  case isFalse=>cases hl
  rename_i hkeys;split at hl
  case h_2=>cases hl
  rename_i r1 es1 hr2 hlb;cases hl;obtain⟨kx,kst⟩:=Qhw hκ hlb;obtain⟨kvar,kout,kyl,kbox⟩:=kst st;have hin: ∀b' b,lkp (θ++ν) b'=some b→ ∃B,lkp bxs' b'=some B:=fun b' b e=>Option.isSome_iff_exists.1 (List.all_eq_true.1 hkeys _ (Qce e));have hownC: ∀g,Own (rhoC θ ρ) g→ ∃b b' B,(b',b)∈θ∧lkp θ b'=some b∧ρ b=some (some g)∧st.box b=some B∧B.live=true:=by
    rintro g ⟨b',hb'⟩;unfold rhoC at hb';cases e:lkp θ b' with
    |none=>rw [e]at hb';cases hb'
    |some b=>
      rw [e]at hb';obtain⟨B,hB,hBl⟩:=hlent _ (Qce e);exact⟨b,b',B,Qce e,e,hb',hB,hBl⟩
  have hownC': ∀g,Own (rhoC θ ρ) g→Own ρ g:=fun g x=>let ⟨b,_,_,_,_,e,_⟩:=hownC g x;⟨b,e⟩;obtain⟨ρ2,hρ2⟩: ∃ρ2:Rho,∀b,ρ2 b=match rlk (θ++ν) b with|some b'=>ρ' b'|none=>ρ b:=⟨fun b=>match rlk (θ++ν) b with|some b'=>ρ' b'|none=>ρ b,fun _=>rfl⟩
  obtain⟨im2,him2⟩: ∃im2:Im,∀g j,im2 g j↔(im g j∨(im' g j∧(Own (rhoC θ ρ) g∨w.heap.size≤g))):=⟨fun g j=>im g j∨(im' g j∧(Own (rhoC θ ρ) g∨w.heap.size≤g)),fun _ _=>Iff.rfl⟩;have him2': ∀g j,im2 g j→im' g j:=fun g j x=>((him2 g j).1 x).elim (fun y=>hst.mono g j (hi g j y)) fun y=>y.1;have hmono: ∀g j,im g j→im2 g j:=fun g j x=>(him2 g j).2 (.inl x);have hkeep:Keeps im w w':=⟨fun g j x=>hst.keep.cell g j (hi g j x),hst.keep.obj,hst.keep.oth⟩
  -- a name of ours that is not the call's
  have hold: ∀b x,ρ b=some x→ρ2 b=some x:=by
    intro b x hx;rw [hρ2];cases e:rlk (θ++ν) b with
    |none=>exact hx
    |some b'=>
      simp only;have hm:=Qnh e;obtain⟨B',hB'⟩:=hin b' b ((Qbt hκ).2 e);rcases List.mem_append.1 hm with hm|hm
      · obtain⟨c,hc⟩:=Qwr hm;have hcb:c=b:=by
          have:=(Qbt hκ).2 e;rw [Qkd,hc]at this;exact Option.some.inj this
        subst hcb;have hrc:rhoC θ ρ b'=some x:=by simp [rhoC,hc,hx]
        cases hx':ρ' b' with
        |none=>rw [(hbox.rho b').1 hx']at hB';cases hB'
        |some x'=>rw [hstay b' x x' hrc hx']
      · have:=(h.rho b).2 (hfree _ hm).1;rw [this]at hx;cases hx
  have hfwd: ∀b c x,lkp (θ++ν) b=some c→ρ' b=some x→ρ2 c=some x:=by
    intro b c x e hx;rw [hρ2,(Qbt hκ).1 e];exact hx
  have himp: ∀g j,im' g j→(Own ρ' g)→im2 g j:=by
    intro g j x y;exact(him2 g j).2 (.inr ⟨x,hst.own g y⟩)
  -- what is held by the call may be held by us, where nothing is flat
  have hall:(∀g j,im1 g j→im g j)→ ∀g j,im' g j→im2 g j:=by
    intro hF g j x;rcases hst.imn g j x with y|y|y
    · exact hmono _ _ (hF g j y)
    · exact(him2 g j).2 (.inr ⟨x,.inl y⟩)
    · exact(him2 g j).2 (.inr ⟨x,.inr y⟩)
  have hcont: ∀b' B B2 us,lkp bxs' b'=some B→Qeq (θ++ν) B=some B2→(∀e∈B.els,e.cells.length=B.esz)→LRL w' im' ρ' (B.els.flatMap PV.cells) us→(B.arr=true→RepL w' im' (B.els.flatMap PV.cells) us)→
      LRL w' im2 ρ2 (B2.els.flatMap PV.cells) us∧(B2.arr=true→RepL w' im2 (B2.els.flatMap PV.cells) us)∧B2.els.length=B.els.length∧(∀e∈B2.els,e.cells.length=B.esz)∧B2={B with els:=B2.els}:=by
    intro b' B B2 us hB hl h4 h1 h2;rcases hF with hF|hF
    · unfold Qeq at hl;split at hl
      · rename_i he;cases hl;have hr:=(Box.ext_rep he h1 h2).mono (fun _ _ _=>rfl) (hall hF);exact⟨hr.toLRL,fun _=>hr,rfl,h4,rfl⟩
      · split at hl
        · cases hl
        · rename_i ha;split at hl
          · rename_i els he;cases hl;obtain⟨k1,k2,k3⟩:=Qph (hall hF) (fun b c x e hx=>hfwd b c x e hx) he h1 h4;exact⟨k1,fun(e:B.arr=true)=>absurd e ha,k2,k3,rfl⟩
          · cases hl
    · simp only [Qj3,Bool.and_eq_true]at hF;have hz:=List.all_eq_true.1 hF.2 _ (Qce hB);rw [Bool.and_eq_true]at hz;have hr:RepL w' im2 (B.els.flatMap PV.cells) us:=Qpc hz.1 h1;have hext:B.ext=true:=by
        unfold Box.ext;have:(B.els.flatMap PV.cells).all Qct=true:=List.all_eq_true.2 fun v hv=>by
          have:=List.all_eq_true.1 hz.1 v hv;cases v<;>first|rfl|cases this
        simp [this]
      unfold Qeq at hl;rw [if_pos hext]at hl;cases hl;exact⟨hr.toLRL,fun _=>hr,rfl,h4,rfl⟩
  have hcontM: ∀b' B g,lkp bxs' b'=some B→Qmx w' im' B g→Qmx w' im2 B g:=by
    intro b' B g hB hm;rcases hF with hF|hF
    · exact hm.mono (fun _ _ _=>rfl) (hall hF) rfl
    · simp only [Qj3,Bool.and_eq_true]at hF;have hz:=List.all_eq_true.1 hF.2 _ (Qce hB);rw [Bool.and_eq_true]at hz;obtain⟨_,_,_,es,_,_,m1,_⟩:=hm;rw [m1]at hz;cases hz.2
  -- the new boxes
  have hnewbox: ∀b b' x B B2,rlk (θ++ν) b=some b'→ρ' b'=some x→lkp bxs' b'=some B→Qeq (θ++ν) B=some B2→Qda C.own w' im2 ρ2 B2 x:=by
    intro b b' x B B2 e hx hB hl;have hb:=hbox.box b' x B hx hB;have harr:B.arr=true→B2=B:=fun ha=>by
      unfold Qeq at hl;rw [if_pos (by unfold Box.ext;rw [ha];rfl)]at hl;cases hl;rfl
    cases x with
    |none=>rw [harr hb.2.1];exact hb
    |some g=>
      obtain⟨h1,h2,h3,h4,⟨hmn,cur,us,rest,h5,h6,h7,h8,h9,h10,h11⟩|hm⟩:=hb
      case inr=>
        have hown:C.own g:=by
          rcases hst.own g h1 with y|y
          · exact(h.ownB (hownC' g y)).1
          · exact .inl (Nat.le_trans h.root.below.size y)
        rw [harr hm.2.1];exact⟨hown,h2,h3,h4,.inr (hcontM b' B g hB hm)⟩
      obtain⟨r1,r2,r3,r4,r5⟩:=hcont b' B B2 us hB hl h4 h7 h8;have hown:C.own g:=by
        rcases hst.own g h1 with y|y
        · exact(h.ownB (hownC' g y)).1
        · exact .inl (Nat.le_trans h.root.below.size y)
      rw [r5];rw [r5]at r2;exact⟨hown,by rw [←r3]at h2;exact h2,h3,r4,.inl ⟨hmn,cur,us,rest,h5,h6,r1,r2,h9,fun j hj hh=>himp g j (h10 j hj hh) h1,fun hl j hj hh=>h11 hl j hj (him2' g j hh)⟩⟩
  have hoff: ∀b g B,rlk (θ++ν) b=none→ρ b=some (some g)→st.box b=some B→B.live=true→ ¬Own (rhoC θ ρ) g:=by
    intro b g B e hb hB hBl hc;obtain⟨b1,b1',B1,hm,_,e1,e2,e3⟩:=hownC g hc;have:=h.inj b b1 g B B1 hb e1 hB e2 hBl e3;subst this;have hm':(b1',b)∈θ++ν:=List.mem_append_left _ hm;rw [(Qdz hκ hm').2]at e;cases e
  refine⟨ρ2,im2,⟨?_,h.nt,Qhe hkeep h.dfr,?_,?_,?_,?_,?_⟩,?_⟩
  · have hstep:Step ρ im w ρ2 im2 w':=by
      refine⟨hst.lent.mono (Nat.le_refl _) fun k _ x=>hownC' k x,hkeep,?_,hmono,?_⟩
      · rintro g ⟨b,hb⟩;rw [hρ2]at hb;cases e:rlk (θ++ν) b with
        |none=>rw [e]at hb;exact .inl ⟨b,hb⟩
        |some b'=>rw [e]at hb;exact(hst.own g ⟨b',hb⟩).imp (hownC' g) id
      · intro g j x;rcases(him2 g j).1 x with y|⟨_,y⟩
        · exact .inl y
        · exact .inr (y.imp (hownC' g) id)
    have hroot:=h.step hstep (by
      intro b x x' hL h0 hx';cases hρb:ρ b with
      |none=>
        exfalso;rw [hρ2]at hx';cases e:rlk (θ++ν) b with
        |none=>rw [e,hρb]at hx';cases hx'
        |some b'=>
          rcases List.mem_append.1 (Qnh e)with hm|hm
          · obtain⟨B,hB,_⟩:=hlent _ hm;rw [(h.rho b).1 hρb]at hB;cases hB
          · exact absurd (hfree _ hm).2 (Nat.not_lt.2 hL)
      |some y=>
        have:=h.root.rho0 b x y hL h0 hρb;subst this;rw [hold b _ hρb]at hx';exact(Option.some.inj hx').symm)
    rw [kout,kyl];exact hroot
  · intro g j x;rcases(him2 g j).1 x with y|⟨y,_⟩
    · rw [hkeep.cell g j y];exact h.imc g j y
    · exact himc g j y
  · intro t x hx;rw [kvar]at hx;exact(h.var t x hx).mono hkeep hmono hold
  · intro b;rw [hρ2,kbox];cases e:rlk (θ++ν) b with
    |none=>exact h.rho b
    |some b'=>
      simp only;obtain⟨B,hB⟩:=hin b' b ((Qbt hκ).2 e);obtain⟨B2,hB2⟩:=kx b' B hB;rw [hB];simp only [hB2,reduceCtorEq,iff_false];intro hn;rw [(hbox.rho b').1 hn]at hB;cases hB
  · intro b x B hx hB;rw [hρ2]at hx;rw [kbox]at hB;cases e:rlk (θ++ν) b with
    |none=>
      rw [e]at hx hB;refine(h.box b x B hx hB).mono hkeep hmono ?_ hold ?_
      · intro hl g j hg hh;rcases(him2 g j).1 hh with y|⟨_,y⟩
        · exact y
        · subst hg;rcases y with y|y
          · exact absurd y (hoff b g B e hx hB hl)
          · exact absurd (h.block_lt hx).1 (Nat.not_lt.2 y)
      · intro hl g hg;subst hg;exact hst.lent.block g (h.block_lt hx).1 (hoff b g B e hx hB hl)
    |some b'=>
      rw [e]at hx hB;obtain⟨B',hB'⟩:=hin b' b ((Qbt hκ).2 e);simp only [hB']at hB;exact hnewbox b b' x _ _ e hx hB' hB
  · intro b1 b2 g B1 B2 g1 g2 e1 e2 l1 l2;have look: ∀b B,(Qan ef st).box b=some B→ ∀b',rlk (θ++ν) b=some b'→ ∃B0,lkp bxs' b'=some B0∧B.live=B0.live:=by
      intro b B hB b' e;rw [kbox,e]at hB;obtain⟨B',hB'⟩:=hin b' b ((Qbt hκ).2 e);simp only [hB']at hB;exact⟨B',hB',Qtw hB⟩
    have mix: ∀b1 b2 B1 B2,ρ2 b1=some (some g)→ρ2 b2=some (some g)→(Qan ef st).box b1=some B1→(Qan ef st).box b2=some B2→B1.live=true→B2.live=true→rlk (θ++ν) b1=none→ ∀b',rlk (θ++ν) b2=some b'→False:=by
      intro b1 b2 B1 B2 g1 g2 e1 e2 l1 l2 k1 b' k2;rw [hρ2,k1]at g1;rw [hρ2,k2]at g2;rw [kbox,k1]at e1;rcases hst.own g ⟨b',g2⟩with y|y
      · exact hoff b1 g B1 k1 g1 e1 l1 y
      · have:=(h.block_lt g1).1;omega
    cases k1:rlk (θ++ν) b1 with
    |none=>
      cases k2:rlk (θ++ν) b2 with
      |none=>
        rw [hρ2,k1]at g1;rw [hρ2,k2]at g2;rw [kbox,k1]at e1;rw [kbox,k2]at e2;exact h.inj b1 b2 g B1 B2 g1 g2 e1 e2 l1 l2
      |some b'=>exact(mix b1 b2 B1 B2 g1 g2 e1 e2 l1 l2 k1 b' k2).elim
    |some b1'=>
      cases k2:rlk (θ++ν) b2 with
      |none=>exact(mix b2 b1 B2 B1 g2 g1 e2 e1 l2 l1 k2 b1' k1).elim
      |some b2'=>
        obtain⟨D1,q1,s1⟩:=look b1 B1 e1 b1' k1;obtain⟨D2,q2,s2⟩:=look b2 B2 e2 b2' k2;rw [hρ2,k1]at g1;rw [hρ2,k2]at g2;have:=hbox.inj b1' b2' g D1 D2 g1 g2 q1 q2 (s1.symm.trans l1) (s2.symm.trans l2);subst this;have z1:=(Qbt hκ).2 k1;have z2:=(Qbt hκ).2 k2;rw [z1]at z2;exact Option.some.inj z2
  · have hr3:=Qy4 hfwd hr2 hrv;rcases hF with hF|hF
    · exact hr3.mono (Keeps.refl _ _) (hall hF) fun _ _ x=>x
    · simp only [Qj3,Bool.and_eq_true]at hF;exact Qy4 hfwd hr2 (Zmy hF.1 hrv)

theorem Zmz {C:Ctx} {st:St} {a:Act} {w:World} {ρ:Rho} {im:Im} {θ0 ν0 θ ν:List (Nat×Nat)} {f0 f:FuncId} {vs args:List PV} {us:List Value} {bxs:List (Nat×Box)} {es:List Eff} {l:Acc} (h:Rel' C st a w ρ im) (hv:LRL w im ρ vs us)
    (hx:Qfn θ0 ν0 f0 vs st.box=some (.callB f args bxs es θ ν,l)):
    f0=f∧ ∃im1,(∀g j,im1 g j→ ∃u,w.cell? ⟨g,j,none⟩=some u)∧Boxes (Own (rhoC θ ρ)) w im1 (rhoC θ ρ) (lkp bxs)∧LRL w im1 (rhoC θ ρ) args us∧
      ∀r bxs' r' ef,land θ ν bxs' r=some (r',ef)→ ∀w' ρ' im' v,Step (rhoC θ ρ) im1 w ρ' im' w'→(∀g j,im' g j→ ∃u,w'.cell? ⟨g,j,none⟩=some u)→Boxes (Own ρ') w' im' ρ' (lkp bxs')→
        (∀b x x',rhoC θ ρ b=some x→ρ' b=some x'→x'=x)→LR w' im' ρ' r v→ ∃ρ2 im2,Rel' C (Qan ((if Qj3 r bxs' then []else es)++ef) st) a w' ρ2 im2∧LR w' im2 ρ2 r' v:=by
  obtain⟨⟨ys,es0⟩,_,_,e1,e2,_⟩:=M.bind_some hx;obtain⟨bxs0,_,_,e3,e4,_⟩:=M.bind_some e2;obtain⟨_,_,_,e5,e6,_⟩:=M.bind_some e4;obtain⟨_,_,_,e7,e8,_⟩:=M.bind_some e6;obtain⟨c1,_⟩:=M.ok_some e7;obtain⟨e9,_⟩:=M.pure_some e8;cases e9;simp only [Bool.and_eq_true,List.all_eq_true,Option.isNone_iff_eq_none,Bool.not_eq_true']at c1;obtain⟨hκ,hes⟩:=c1;have hθ: ∀b b',rlk θ0 b=some b'→lkp θ0 b'=some b:=by
    intro b b' e;have hm:=Qnh e;obtain⟨c,hc⟩:=Qwr hm;have:=(Qdz hκ (List.mem_append_left ν0 hm)).1;rw [Qkd,hc]at this;rw [hc];exact this
  obtain⟨k1,k2⟩:=Qhv e3;have k3:=Qk4 e5;obtain⟨im1,g1,r1⟩:=Zcz hθ h (fun _=>rfl) hv e1;have hbx: ∀b b',rlk (θ0++ν0) b=some b'→(Qan es0 st).box b=st.box b:=by
    intro b b' e;refine Qdy es0 st fun x hx hid=> ?_;have:=(hes x hx).1;rw [hid,e]at this;cases this
  have hbθ: ∀p∈θ0,(Qan es0 st).box p.2=st.box p.2:=fun p hp=>hbx _ _ (Qdz hκ (List.mem_append_left ν0 hp)).2;have hbν: ∀p∈ν0,(Qan es0 st).box p.2=st.box p.2:=fun p hp=>hbx _ _ (Qdz hκ (List.mem_append_right θ0 hp)).2;refine⟨rfl,im1,g1.rel.imc,⟨?_,?_,?_⟩,r1,?_⟩
  · intro b';rw [k1 b'];unfold rhoC;cases e:lkp θ0 b' with
    |none=>simp
    |some b=>
      obtain⟨B1,B2,hB1,hl1,_⟩:=k2 _ (Qce e);simp only at hB1;simp only [Option.bind_some,hB1,hl1];constructor
      · intro q;rw [(h.rho b).1 q]at hB1;cases hB1
      · intro q;cases q
  · intro b' x B hx hB;rw [k1 b']at hB;unfold rhoC at hx;cases e:lkp θ0 b' with
    |none=>rw [e]at hx;cases hx
    |some b=>
      rw [e]at hx hB;simp only [Option.bind_some]at hx hB;obtain⟨B1,B2,hB1,hl1,_⟩:=k2 _ (Qce e);simp only at hB1;rw [hB1,Option.bind_some]at hB;have hb:=g1.rel.box b x B1 hx (by rw [hbθ _ (Qce e)];exact hB1);exact Q2w hθ hB hb fun g eg=>⟨b',by simp [rhoC,e,hx,eg]⟩
  · intro b1 b2 g B1 B2 g1' g2' e1' e2' l1 l2;rw [k1 b1]at e1';rw [k1 b2]at e2';unfold rhoC at g1' g2';cases z1:lkp θ0 b1 with
    |none=>rw [z1]at g1';cases g1'
    |some c1=>
      cases z2:lkp θ0 b2 with
      |none=>rw [z2]at g2';cases g2'
      |some c2=>
        rw [z1]at g1' e1';rw [z2]at g2' e2';simp only [Option.bind_some]at g1' g2' e1' e2';obtain⟨D1,D1',hD1,hl1,_⟩:=k2 _ (Qce z1);obtain⟨D2,D2',hD2,hl2,_⟩:=k2 _ (Qce z2);simp only at hD1 hD2;rw [hD1,Option.bind_some]at e1';rw [hD2,Option.bind_some]at e2';have:=h.inj c1 c2 g D1 D2 g1' g2' hD1 hD2 (by rw [←Qk3 e1'];exact l1) (by rw [←Qk3 e2'];exact l2);subst this;have y1:=(Qdz hκ (List.mem_append_left ν0 (Qce z1))).2;have y2:=(Qdz hκ (List.mem_append_left ν0 (Qce z2))).2;rw [y1]at y2;exact Option.some.inj y2
  · intro r bxs' r' ef hl w' ρ' im' v hst himc hbox hstay hrv;rw [Qav];by_cases hfl:Qj3 r bxs'=true
    · rw [if_pos hfl];exact Qy5 h g1.im hκ (fun p hp=>let ⟨B,_,hB,_,hl,_⟩:=k2 p hp;⟨B,hB,hl⟩) k3 hl hst himc hbox hstay hrv (.inr hfl)
    · rw [if_neg hfl];exact Qy5 g1.rel (fun _ _ x=>x) hκ (fun p hp=>let ⟨B,_,hB,_,hl,_⟩:=k2 p hp;⟨B,by rw [hbθ p hp];exact hB,hl⟩) (fun p hp=>by rw [hbν p hp];exact k3 p hp) hl hst himc hbox hstay hrv (.inl fun _ _ x=>x)

section
variable {C:Ctx} {st:St} {a:Act} {w:World} {o:Oper} {ops:Array Oper}
theorem Qet (st:St):Qcx st.box st:=fun _=>rfl
theorem Zcv.calls {P:Program} {f:FuncId} {args:List PV} {r:PV} (h:Zcv P f args r): ∃fn,P.funcs[f]? =some fn∧fn.body.isSome=true∧(fn.name== "runtime.NumGoroutine")=false:=by
 have h1:=h.1;unfold callable at h1;split at h1
 ·rename_i fn hf;simp only [Bool.and_eq_true,Bool.not_eq_true']at h1;exact⟨fn,hf,h1.1,h1.2⟩
 ·cases h1
theorem Qbv.calls {P:Program} {f:FuncId} {args:List PV} {bxs bxs':List (Nat×Box)} {r:PV} (h:Qbv P f args bxs r bxs'): ∃fn,P.funcs[f]? =some fn∧fn.body.isSome=true∧(fn.name== "runtime.NumGoroutine")=false:=by
 have h1:=h.1;unfold callable at h1;split at h1
 ·rename_i fn hf;simp only [Bool.and_eq_true,Bool.not_eq_true']at h1;exact⟨fn,hf,h1.1,h1.2⟩
 ·cases h1
def FW (rd:Option Nat):Fence:={Fence.wide with round:=rd}
theorem opIn {rd:Option Nat} {P:Program} {K:Act→World→Prop} {Q:Exit→Act→World→Prop} (hd: ∀c,o.op≠ .defer c) (h:o.uponIn (FW rd) 0 P a K Q ((execOp a.eval o).run P w)):o.wpIn (FW rd) 0 P a w K Q:=by
 refine⟨fun _ _=>trivial,?_⟩;have:o.semAt (FW rd).round a.eval=execOp a.eval o:=by
  cases rd with
  |none=>rfl
  |some l=>exact Oper.semAt_some l a.eval o hd
 rw [this];exact h
theorem Qhj {rd:Option Nat} {P:Program} {f:FuncId} {args:Array Value} {R:Ending→World→Prop} (h:Calls P f args w R):CallsIn (FW rd) 0 P f args w R:=callsIn_wide.2 h
theorem Qeu {P:Program} {tb:Tab} {id:Nat} {op:Op} {vs:List PV} {bx:Bx} {x:Out×Acc} (h:Qa6 P tb id op vs bx=some x): ∀c,op≠ .defer c:=by
 rintro c rfl;simp [Qa6,Qi9,M.fail]at h
theorem Zm0 {tb:Tab} {id:Nat} {r:Rec} (h:Rel C st a w) (hr:OpRun C.P tb ops st id o r) (hidL:id<LENT) (hd: ∀t,o.dst=some t→t<C.nt) {rd:Option Nat} {K:Act→World→Prop} {Q:Exit→Act→World→Prop}
  (hK: ∀a' w',Rel C (r.on o.dst st) a' w'→K a' w'):
  if Region.wanted o (yielded ops a.tmps)then o.wpIn (FW rd) 0 C.P a w K Q else(∀f,o.about C.P w a.eval=some f→(FW rd).fn f)∧K (a.put o.dst undef) w:=by
 obtain⟨ρ,im,h⟩:=h;cases hr with
 |skip hw=>
  rw [Qfb h hw];exact⟨fun _ _=>trivial,hK _ _ (Rel.put h hd (.ext _ _ (.tup [] [] .nil)))⟩
 |done hw vs hv v es l he=>
  rw [Qfb h hw];obtain⟨u,w',ρ',im',hrun,h1,h2⟩:=Zvt hidL h (Qm4 h hv) he;have hk:=hK _ _ (Rel.put h1 hd h2);simp only [if_true];refine opIn (Qeu he) ?_;rcases hrun with hrun|⟨hrun,hu⟩
  ·rw [hrun];exact hk
  ·rw [hrun];rw [hu]at hk;exact hk
 |call hw vs hv f args es l r he hs=>
  rw [Qfb h hw];cases Qkc he (by intro v es e;cases e)with
  |callB fo asx ts f first cap vargs θ ν x l hop hvs hx=>
   obtain⟨_,_,_,_,e2,_⟩:=M.bind_some hx;obtain⟨_,_,_,_,e4,_⟩:=M.bind_some e2;obtain⟨_,_,_,_,e6,_⟩:=M.bind_some e4;obtain⟨_,_,_,_,e8,_⟩:=M.bind_some e6;obtain⟨e9,_⟩:=M.pure_some e8;cases e9
  |call fo asx ts f first cap vargs x y z l1 l2 l3 hop hvs e1 e2 e3=>
  subst hvs;have hv':=Qm4 h hv;rw [hop]at hv';simp only [Op.operands,Call.operands]at hv';obtain⟨uf,uargs,hu,h1,h2⟩:=hv'.cons_inv;simp at hu;obtain⟨hu1,hu2⟩:=hu;obtain⟨p,q,hpq,hp,hq⟩:=h1.fn_inv;obtain⟨x1,xe⟩:=x;obtain⟨y1,ye⟩:=y;obtain⟨z1,ze⟩:=z;obtain⟨im1,g1,r1⟩:=Qfa h (Qet st) hp e1;obtain⟨im2,g2,r2⟩:=Qje g1.rel g1.soft (h2.mono (Keeps.refl _ _) g1.im fun _ _ x=>x) e2;obtain⟨im3,g3,r3⟩:=Qfa g2.rel g2.soft (hq.mono (Keeps.refl _ _) (fun g j x=>g2.im g j (g1.im g j x)) fun _ _ x=>x) e3;have hargs:RepL w im3 (x1++y1++z1) (p++uargs++q):=
   ((r1.mono (fun _ _ _=>rfl) fun g j x=>g3.im g j (g2.im g j x)).append (r2.mono (fun _ _ _=>rfl) g3.im)).append r3
  rcases hs with hs|⟨_,hfl,hs⟩
  case inr=>
   obtain⟨v,hv1,hv2⟩:=hs w im3 _ hargs;simp only [if_true];refine opIn (Qeu he) ?_;have hrun:(execOp a.eval o).run C.P w= .ok (.value v) w:=by
    rw [←hv1];have ea:p.toArray++(Array.map a.eval asx++q.toArray)=(p++(uargs++q)).toArray:=by rw [←hu2];simp
    simp [execOp,hop,resolve,hu1,hpq,Deferred.ofValue,invoke];rw [ea]
   rw [hrun];simp only [Rec.on,hfl,if_true,Qbu]at hK;exact hK _ _ (Rel.put h hd (.ext _ _ (Qy1 hfl hv2)))
  obtain⟨fn,hf1,hf2,hf3⟩:=hs.calls;have hcall:=hs.2 w im3 _ C.F h.laid.2.1 h.laid.1 hargs g3.rel.imc;have hst3:Qan ze (Qan ye (Qan xe st))=Qan (xe++ye++ze) st:=by rw [Qav,Qav]
  have g3':=g3.rel;rw [hst3]at g3';simp only [if_true];refine opIn (Qeu he) ?_;have hrun:(execOp a.eval o).run C.P w= .ok (.enter f (p++uargs++q).toArray) w:=by
   have hn: ¬fn.name= "runtime.NumGoroutine" :=by simpa using hf3
   have hbn: ¬fn.body=none:=by intro e;rw [e]at hf2;cases hf2
   simp [execOp,hop,resolve,hu1,hpq,Deferred.ofValue,invoke,callFunc,hf1,hn,hbn];exact hu2
  rw [hrun,Oper.uponIn_enter];refine⟨fun e=>(by cases e),(Qhj hcall).mono ?_⟩;rintro e w' ⟨v,rfl,hbl,hrv⟩;refine hK _ _ ?_;by_cases hfl:Qhs r=true
  ·simp only [Rec.on,hfl,if_true,Qbu];exact Rel.put (h.below_call hbl) hd (.ext _ _ (Qy1 hfl hrv))
  ·simp only [Rec.on,hfl,if_false];refine Rel.put (g3'.grow (im':=Zmx im3 w w') (.of_below hbl) (Keeps.of_below hbl g3'.imc) (g3'.below_call hbl) (fun _ _ x=> .inl x) ?_) hd (.ext _ _ hrv);rintro g j (x|⟨x,y⟩)
   ·exact .inl x
   ·exact .inr ⟨x,y,fun b hb=>by have:=(h.block_lt hb).1;omega⟩
 |callB hw vs hv f args bxs es θ ν l r bxs' r' ef he hs hl=>
  rw [Qfb h hw];cases Qkc he (by intro v es e;cases e)with
  |callB fo asx ts f first cap vargs θ ν x l hop hvs hx=>
  subst hvs;have hv':=Qm4 h hv;rw [hop]at hv';simp only [Op.operands,Call.operands]at hv';obtain⟨uf,uargs,hu,h1,h2⟩:=hv'.cons_inv;simp at hu;obtain⟨hu1,hu2⟩:=hu;obtain⟨p,q,hpq,hp,hq⟩:=h1.fn_inv;obtain⟨fn,hf1,hf2,hf3⟩:=hs.calls;simp only [if_true];refine opIn (Qeu he) ?_;obtain⟨rfl,im1,k1,k2,k3,k4⟩:=Zmz h ((hp.append h2).append hq) hx;have hrun:(execOp a.eval o).run C.P w= .ok (.enter f (p++uargs++q).toArray) w:=by
   have hn: ¬fn.name= "runtime.NumGoroutine" :=by simpa using hf3
   have hbn: ¬fn.body=none:=by intro e;rw [e]at hf2;cases hf2
   simp [execOp,hop,resolve,hu1,hpq,Deferred.ofValue,invoke,callFunc,hf1,hn,hbn];exact hu2
  rw [hrun,Oper.uponIn_enter];refine⟨fun e=>(by cases e),(Qhj (hs.2 w im1 _ _ C.F h.laid.2.1 h.laid.1 (fun g hg=>by
   obtain⟨b,hb⟩:=hg;have hb': ∃c,ρ c=some (some g):=(Option.bind_eq_some_iff.1 hb).elim fun c x=>⟨c,x.2⟩;exact h.laid.2.2 g hb') k1 k2 k3)).mono ?_⟩
  rintro e w' ⟨v,ρ',im',rfl,hst,himc,hbox,hstay,hrv⟩;obtain⟨ρ2,im2,m1,m2⟩:=k4 r bxs' r' ef hl w' ρ' im' v hst himc hbox hstay hrv;exact hK _ _ (Rel.put m1 hd m2)
 |yield hw vs hv n stop args es l he hy=>
  rw [Qfb h hw];cases Qkc he (by intro v es e;cases e)with
  |callB fo asx ts f first cap vargs θ ν x l hop hvs hx=>
   obtain⟨_,_,_,_,e2,_⟩:=M.bind_some hx;obtain⟨_,_,_,_,e4,_⟩:=M.bind_some e2;obtain⟨_,_,_,_,e6,_⟩:=M.bind_some e4;obtain⟨_,_,_,_,e8,_⟩:=M.bind_some e6;obtain⟨e9,_⟩:=M.pure_some e8;cases e9
  |yield fo asx ts n stop vargs y l1 hop hvs e1=>
  subst hvs;have hv':=Qm4 h hv;rw [hop]at hv';simp only [Op.operands,Call.operands]at hv';obtain⟨uf,uargs,hu,h1,h2⟩:=hv'.cons_inv;simp at hu;obtain⟨hu1,hu2⟩:=hu;have hyv:=h1.yld_inv;obtain⟨y1,ye⟩:=y;obtain⟨im1,g1,r1⟩:=Qje h (Qet st) h2 e1;have hr1:=g1.rel.root;rw [g1.yl,g1.out]at hr1;simp only [if_true];refine opIn (Qeu he) ?_;unfold yOk at hy;split at hy
  case h_2=>exact hy.elim
  rename_i n' stop' outs hyl;obtain⟨rfl,rfl,hs,ho⟩:=hy;obtain⟨fn,tmps,assign,body,k1,k2⟩:=C.hY (hr1.yl.symm.trans hyl) st.out y1 uargs hs ho hr1.ghost (fun g hg=>(g1.rel.ownB hg).2) g1.rel.imc r1 hr1.below.size;have hrun:(execOp a.eval o).run C.P w= .ok (.round n fn tmps assign body) w:=by
   simp [execOp,hop,resolve,hu1,hyv,Deferred.ofValue,invoke];rw [←hu2]at k1;have hA:(asx.toList.map a.eval).toArray=asx.map a.eval:=Array.ext' (by simp);rw [hA]at k1;exact k1
  rw [hrun,Oper.uponIn_round];refine⟨fun e=>(by cases e),RoundIn.mono (F:=Fence.wide) k2 ?_⟩;rintro e w' ⟨rfl,ht,hj⟩;refine hK _ _ ?_;have hT:=g1.rel.turned (args:=y1) ht (by rw [g1.out];exact hj);have:=Rel.put hT hd (v:= .bool (decide (st.out.length<stop))) (u:= .bool (decide (st.out.length<stop))) (.ext _ _ (.bool _));simpa [Rec.on,Qav,Qay,Qbu,Eff.on]using this
end
def Z0f (o:Op):List Tmp:=o.operands.toList.filterMap fun| .tmp t=>some t|_=>none
def Qnm (ops:Array Oper) (o:Oper):List Tmp:=Z0f o.op++(match Qji ops o with|some (t,_)=>[t]|none=>[])
theorem Qtx {st st':St}: ∀{xs:List Operand},(∀t∈(xs.filterMap fun| .tmp t=>some t|_=>none),st'.var t=st.var t)→st'.evs xs=st.evs xs
 | [],_=>rfl
 |x::xs,h=>by
  have hx:st'.ev x=st.ev x:=by
   cases x with
   |tmp t=>exact h t (by simp)
   |_=>rfl
  have hxs:st'.evs xs=st.evs xs:=Qtx fun t ht=>h t (by cases x<;>simp_all);simp only [St.evs,hx,hxs]
theorem Qe0 {ops:Array Oper} {o:Oper} {st st':St} (h: ∀t∈Qnm ops o,st'.var t=st.var t):Qcp ops o st'=Qcp ops o st:=by
 unfold Qcp;cases hg:o.guard with
 |none=>rfl
 |some p=>
  simp only;cases ht:Qji ops o with
  |none=>rfl
  |some q=>
   obtain⟨t,want⟩:=q;simp only;rw [h t (by simp [Qnm,ht])]
theorem OpRun.frame {P:Program} {tb:Tab} {ops:Array Oper} {st st':St} {id:Nat} {o:Oper} {r:Rec} (h:OpRun P tb ops st id o r) (hny: ∀h,(YID,h) ∉ r.acc) (hv: ∀t∈Qnm ops o,st'.var t=st.var t) (hb:Qd8 r.acc st.box st'.box):
  OpRun P tb ops st' id o r:=by
 have he:st'.evs o.op.operands.toList=st.evs o.op.operands.toList:=Qtx fun t ht=>hv t (List.mem_append_left _ ht);cases h with
 |skip hw=>exact .skip (by rw [Qe0 hv];exact hw)
 |done hw vs hvs v es l he'=>exact .done (by rw [Qe0 hv];exact hw) vs (by rw [he];exact hvs) v es l (Qgu _ _ _ _ _ _ _ _ _ he' hb.append.1)
 |call hw vs hvs f args es l r he' hs=>exact .call (by rw [Qe0 hv];exact hw) vs (by rw [he];exact hvs) f args es l r (Qgu _ _ _ _ _ _ _ _ _ he' hb.append.1) hs
 |callB hw vs hvs f args bxs es θ ν l r bxs' r' ef he' hs hl=>exact .callB (by rw [Qe0 hv];exact hw) vs (by rw [he];exact hvs) f args bxs es θ ν l r bxs' r' ef (Qgu _ _ _ _ _ _ _ _ _ he' hb.append.1.append.1) hs hl
 |yield hw vs hvs n stop args es l he' hy=>exact absurd (List.mem_append_right _ (List.mem_singleton.2 rfl)) (hny true)
theorem OpRun.effs {P:Program} {tb:Tab} {ops:Array Oper} {st:St} {id:Nat} {o:Oper} {r:Rec} (h:OpRun P tb ops st id o r): ∀e∈r.effs,(e.id,e.hard)∈r.acc:=by
 cases h with
 |skip hw=>simp
 |done hw vs hvs v es l he'=>intro e he;exact List.mem_append_right _ (List.mem_map.2 ⟨e,he,rfl⟩)
 |call hw vs hvs f args es l r he' hs=>
  intro e he;simp only at he;split at he
  ·simp at he
  ·exact List.mem_append_right _ (List.mem_map.2 ⟨e,he,rfl⟩)
 |callB hw vs hvs f args bxs es θ ν l r bxs' r' ef he' hs hl=>
  intro e he;rcases List.mem_append.1 he with he|he
  ·split at he
   ·simp at he
   ·exact List.mem_append_left _ (List.mem_append_right _ (List.mem_map.2 ⟨e,he,rfl⟩))
  ·exact List.mem_append_right _ (List.mem_map.2 ⟨e,he,rfl⟩)
 |yield hw vs hvs n stop args es l he' hy=>
  intro e he;rcases List.mem_append.1 he with he|he
  ·exact List.mem_append_left _ (List.mem_append_right _ (List.mem_map.2 ⟨e,he,rfl⟩))
  ·rw [List.mem_singleton.1 he];exact List.mem_append_right _ (List.mem_singleton.2 rfl)
structure Apart (ops:Array Oper) (o1 o2:Oper) (l1 l2:Acc):Prop where
 d1: ∀t,o1.dst=some t→t ∉ Qnm ops o2
 d2: ∀t,o2.dst=some t→t ∉ Qnm ops o1
 dd: ∀t,o1.dst=some t→o2.dst≠some t
 acc: ∀b h1 h2,(b,h1)∈l1→(b,h2)∈l2→h1=false∧h2=false
 y1: ∀h,(YID,h) ∉ l1
 y2: ∀h,(YID,h) ∉ l2
def Zc2 (ops:Array Oper) (o1 o2:Oper) (l1 l2:Acc):Bool:=
 (match o1.dst with|some t=> !(Qnm ops o2).contains t&& !(o2.dst==some t)|none=>true)&&
 (match o2.dst with|some t=> !(Qnm ops o1).contains t|none=>true)&&
 (l1.all fun p=>l2.all fun q=>p.1 != q.1||(!p.2&& !q.2))&&(l1.all fun p=>p.1 != YID)&&l2.all fun p=>p.1 != YID
theorem Qws {ops:Array Oper} {o1 o2:Oper} {l1 l2:Acc} (h:Zc2 ops o1 o2 l1 l2=true):Apart ops o1 o2 l1 l2:=by
 simp only [Zc2,Bool.and_eq_true]at h;obtain⟨⟨⟨⟨h1,h2⟩,h3⟩,h4⟩,h5⟩:=h;refine⟨?_,?_,?_,?_,fun x hx=>by have:=List.all_eq_true.1 h4 _ hx;simp at this,fun x hx=>by have:=List.all_eq_true.1 h5 _ hx;simp at this⟩
 ·intro t ht;rw [ht]at h1;simp at h1;exact h1.1
 ·intro t ht;rw [ht]at h2;simp at h2;exact h2
 ·intro t ht;rw [ht]at h1;simp at h1;exact h1.2
 ·intro b x y hx hy;have:=List.all_eq_true.1 (List.all_eq_true.1 h3 _ hx) _ hy;simpa using this
theorem Zm1 (e:Eff) (st:St) {b:Nat} (h:e.id=b→e.hard=false):((e.on st).box b).map Box.soft=(st.box b).map Box.soft:=by
 by_cases hb:e.id=b
 ·have:=h hb;cases e with
  |fro b' n=>
   simp only [Eff.id]at hb;subst hb;simp only [Eff.on];split
   ·rename_i B hB;simp [St.setBox,Qao,hB,Box.soft]
   ·rfl
  |_=>simp [Eff.hard]at this
 ·rw [Qjf e st hb]
theorem Qty: ∀(es:List Eff) (st:St) {b:Nat},(∀e∈es,e.id=b→e.hard=false)→((Qan es st).box b).map Box.soft=(st.box b).map Box.soft
 | [],_,_,_=>rfl
 |e::es,st,b,h=>by
  rw [Qay,Qty es _ fun x hx=>h x (by simp [hx])];exact Zm1 e st (h e (by simp))
theorem Zvu (e:Eff) (st:St):(e.on st).var=st.var:=by
 cases e<;>simp only [Eff.on]<;>first|rfl|(split<;>rfl)
theorem Qre: ∀(es:List Eff) (st:St),(Qan es st).var=st.var
 | [],_=>rfl
 |e::es,st=>by rw [Qay,Qre es,Zvu]
theorem Zvv (st:St) (dst:Option Tmp) (v:PV):(st.put dst v).box=st.box:=by cases dst<;>rfl
theorem Qjl (st:St) {dst:Option Tmp} (v:PV) {t:Nat} (h:dst≠some t):(st.put dst v).var t=st.var t:=by
 cases dst with
 |none=>rfl
 |some d=>exact Qal _ _ _ _ fun e=>h (by rw [e])
theorem Qnn {P:Program} {tb:Tab} {ops:Array Oper} {st:St} {id1:Nat} {o1 o2:Oper} {r1:Rec} {l2:Acc} (h:OpRun P tb ops st id1 o1 r1) (ha:Apart ops o1 o2 r1.acc l2):
  Qd8 l2 st.box (r1.on o1.dst st).box:=by
 rintro⟨b,h2⟩ hp;simp only [Rec.on,Zvv];cases h2 with
 |true=>
  simp only [if_true];exact(Qdy _ _ fun e he hb=>by have:=(ha.acc b e.hard true (by rw [←hb];exact h.effs e he) hp).2;cases this).symm
 |false=>
  simp only [Bool.false_eq_true,if_false];exact(Qty _ _ fun e he hb=>(ha.acc b e.hard false (by rw [←hb];exact h.effs e he) hp).1).symm
theorem Q2y {l:Acc} {bx bx':Bx} (h:Qd8 l bx bx'):Qd8 l bx' bx:=by
 intro p hp;have:=h p hp;split<;>simp_all
theorem St.ext' {s t:St} (h1:s.var=t.var) (h2:s.box=t.box) (h3:s.out=t.out) (h4:s.yl=t.yl):s=t:=by cases s;cases t;simp_all
theorem Qy6 {α:Type} (f:Nat→α) {i j:Nat} (x y:α) (h:i≠j):upd (upd f i x) j y=upd (upd f j y) i x:=by
 funext k;simp only [upd];by_cases h1:k=j<;>by_cases h2:k=i<;>simp_all
theorem Zm2 (e1 e2:Eff) (st:St) (y1:e1.id≠YID) (y2:e2.id≠YID) (h:e1.id≠e2.id∨(e1.hard=false∧e2.hard=false)):e1.on (e2.on st)=e2.on (e1.on st):=by
 -- what an effect makes of its box
 have form: ∀(e:Eff) (s:St),e.id≠YID→(e.on s)=s∨ ∃B,(e.on s)=s.setBox e.id B∧ ∀s':St,s'.box e.id=s.box e.id→e.on s'=s'.setBox e.id B:=by
  intro e s hy;cases e with
  |yld x=>exact absurd rfl hy
  |new b B=>exact .inr ⟨B,rfl,fun _ _=>rfl⟩
  |wr b i v=>
   simp only [Eff.on,Eff.id];cases hb:s.box b with
   |none=>exact .inl rfl
   |some B=>exact .inr ⟨_,rfl,fun s' e=>by simp [e]⟩
  |fro b n=>
   simp only [Eff.on,Eff.id];cases hb:s.box b with
   |none=>exact .inl rfl
   |some B=>exact .inr ⟨_,rfl,fun s' e=>by simp [e]⟩
  |kill b=>
   simp only [Eff.on,Eff.id];cases hb:s.box b with
   |none=>exact .inl rfl
   |some B=>exact .inr ⟨_,rfl,fun s' e=>by simp [e]⟩
 have nul: ∀(e:Eff) (s s':St),e.id≠YID→e.on s=s→s'.box e.id=s.box e.id→e.on s'=s':=by
  intro e s s' hy he hb;cases e with
  |yld x=>exact absurd rfl hy
  |new b B=>
   simp only [Eff.on,Eff.id]at he hb ⊢;have:s.box b=some B:=by rw [←he];simp [St.setBox,Qao]
   refine St.ext' rfl ?_ rfl rfl;funext k;simp only [St.setBox,upd];split
   ·rename_i hk;subst hk;rw [hb,this]
   ·rfl
  |wr b i v=>
   simp only [Eff.on,Eff.id]at he hb ⊢;rw [hb];cases hs:s.box b with
   |none=>rfl
   |some B=>
    rw [hs]at he;have:s.box b=some {B with els:=B.els.set i v}:=by conv=>lhs;rw [←he];simp only [St.setBox,Qao]
    rw [hs]at this;simp only [Option.some.injEq]at this;show St.setBox s' b _=s';rw [←this];refine St.ext' rfl ?_ rfl rfl;funext k;simp only [St.setBox,upd];split
    ·rename_i hk;subst hk;rw [hb,hs]
    ·rfl
  |fro b n=>
   simp only [Eff.on,Eff.id]at he hb ⊢;rw [hb];cases hs:s.box b with
   |none=>rfl
   |some B=>
    rw [hs]at he;have:s.box b=some {B with fro:=max B.fro n,live:=B.live&&true}:=by conv=>lhs;rw [←he];simp only [St.setBox,Qao]
    rw [hs]at this;simp only [Option.some.injEq]at this;show St.setBox s' b _=s';rw [←this];refine St.ext' rfl ?_ rfl rfl;funext k;simp only [St.setBox,upd];split
    ·rename_i hk;subst hk;rw [hb,hs]
    ·rfl
  |kill b=>
   simp only [Eff.on,Eff.id]at he hb ⊢;rw [hb];cases hs:s.box b with
   |none=>rfl
   |some B=>
    rw [hs]at he;have:s.box b=some {B with els:=[],fro:=0,live:=false}:=by conv=>lhs;rw [←he];simp only [St.setBox,Qao]
    rw [hs]at this;simp only [Option.some.injEq]at this;show St.setBox s' b _=s';rw [←this];refine St.ext' rfl ?_ rfl rfl;funext k;simp only [St.setBox,upd];split
    ·rename_i hk;subst hk;rw [hb,hs]
    ·rfl
 by_cases hid:e1.id=e2.id
 ·-- both hold the same box
  obtain⟨h1,h2⟩:=h.resolve_left (fun x=>x hid);cases e1 with
  |fro b n=>
   cases e2 with
   |fro b' n'=>
    simp only [Eff.id]at hid;subst hid;simp only [Eff.on];cases hs:st.box b with
    |none=>simp [hs]
    |some B=>
     simp only [St.setBox,Qao];refine St.ext' rfl ?_ rfl rfl;funext k;simp only [upd];split
     ·simp [Nat.max_comm,Nat.max_left_comm]
     ·rfl
   |_=>simp [Eff.hard]at h2
  |_=>simp [Eff.hard]at h1
 ·have o12:(e1.on st).box e2.id=st.box e2.id:=Qjf e1 st hid;have o21:(e2.on st).box e1.id=st.box e1.id:=Qjf e2 st fun x=>hid x.symm;rcases form e1 st y1 with f1|⟨B1,f1,g1⟩
  ·rw [f1];exact nul e1 st _ y1 f1 o21
  ·rcases form e2 st y2 with f2|⟨B2,f2,g2⟩
   ·rw [f2];exact(nul e2 st _ y2 f2 o12).symm
   ·rw [g1 _ o21,g2 _ o12,f1,f2];exact St.ext' rfl (Qy6 _ _ _ fun x=>hid x.symm) rfl rfl
theorem Qpi (e:Eff) (y:e.id≠YID): ∀(es:List Eff) (st:St),(∀x∈es,x.id≠YID)→(∀x∈es,e.id≠x.id∨(e.hard=false∧x.hard=false))→e.on (Qan es st)=Qan es (e.on st)
 | [],_,_,_=>rfl
 |x::es,st,ys,h=>by
  rw [Qay,Qay,Qpi e y es _ (fun y hy=>ys y (by simp [hy])) fun y hy=>h y (by simp [hy]),Zm2 e x st y (ys x (by simp)) (h x (by simp))]
theorem Qtz: ∀(es fs:List Eff) (st:St),(∀x∈es,x.id≠YID)→(∀x∈fs,x.id≠YID)→(∀e∈es,∀x∈fs,e.id≠x.id∨(e.hard=false∧x.hard=false))→Qan es (Qan fs st)=Qan fs (Qan es st)
 | [],_,_,_,_,_=>rfl
 |e::es,fs,st,ys,zs,h=>by
  rw [Qay,Qpi e (ys e (by simp)) fs st zs (h e (by simp)),Qtz es fs _ (fun x hx=>ys x (by simp [hx])) zs fun x hx=>h x (by simp [hx]),Qay]
theorem Zvw (e:Eff) (st:St) (dst:Option Tmp) (v:PV):e.on (st.put dst v)=(e.on st).put dst v:=by
 cases dst with
 |none=>rfl
 |some t=>
  have hb: ∀b,(st.setVar t v).box b=st.box b:=fun _=>rfl;cases e with
  |new b B=>rfl
  |yld x=>rfl
  |_ b=>simp only [Eff.on,St.put,hb];cases st.box b<;>rfl
theorem Zm3 (es:List Eff) (st:St) (dst:Option Tmp) (v:PV):Qan es (st.put dst v)=(Qan es st).put dst v:=by
 induction es generalizing st with
 |nil=>rfl
 |cons e es ih=>rw [Qay,Qay,←ih,Zvw]
theorem Zm4 (st:St) {d1 d2:Option Tmp} (v1 v2:PV) (h: ∀t,d1=some t→d2≠some t):(st.put d1 v1).put d2 v2=(st.put d2 v2).put d1 v1:=by
 cases d1 with
 |none=>rfl
 |some i=>
  cases d2 with
  |none=>rfl
  |some j=>exact St.ext' (Qy6 _ _ _ fun e=>h i rfl (by rw [e])) rfl rfl rfl
theorem swap {P:Program} {tb:Tab} {ops:Array Oper} {st:St} {id1 id2:Nat} {o1 o2:Oper} {r1 r2:Rec} (h1:OpRun P tb ops st id1 o1 r1) (h2:OpRun P tb ops (r1.on o1.dst st) id2 o2 r2)
  (ha:Apart ops o1 o2 r1.acc r2.acc):OpRun P tb ops st id2 o2 r2∧OpRun P tb ops (r2.on o2.dst st) id1 o1 r1∧r2.on o2.dst (r1.on o1.dst st)=r1.on o1.dst (r2.on o2.dst st):=by
 have k2:OpRun P tb ops st id2 o2 r2:=h2.frame ha.y2 (fun t ht=>by
  simp only [Rec.on];rw [Qjl _ _ fun e=>ha.d1 t e ht,Qre]) (Q2y (Qnn h1 ha))
 have ha':Apart ops o2 o1 r2.acc r1.acc:=⟨ha.d2,ha.d1,fun t e1 e2=>ha.dd t e2 e1,fun b x y hx hy=>(ha.acc b y x hy hx).symm,ha.y2,ha.y1⟩;have k1:OpRun P tb ops (r2.on o2.dst st) id1 o1 r1:=h1.frame ha.y1 (fun t ht=>by
  simp only [Rec.on];rw [Qjl _ _ fun e=>ha.d2 t e ht,Qre]) (Qnn k2 ha')
 refine⟨k2,k1,?_⟩;simp only [Rec.on,Zm3];rw [Zm4 _ _ _ ha.dd,Qtz _ _ _ (fun e he x=>ha.y2 _ (by rw [←x];exact h2.effs e he)) (fun e he x=>ha.y1 _ (by rw [←x];exact h1.effs e he))];intro e he x hx;by_cases hb:e.id=x.id
 ·right;have:=ha.acc x.id x.hard e.hard (h1.effs x hx) (by rw [←hb];exact h2.effs e he);exact⟨this.2,this.1⟩
 ·exact .inl hb
end Go.Vl
