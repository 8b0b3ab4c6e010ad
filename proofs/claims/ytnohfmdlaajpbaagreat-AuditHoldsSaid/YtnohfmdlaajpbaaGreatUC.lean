/-
  UB3, UEq, UC (merged for the claim).
-/
import Derived.Test.YtnohfmdlaajpbaaGreatUB2
set_option linter.unusedSimpArgs false
set_option linter.unusedVariables false
namespace Go.Vl
open Go.RowKit

/-- A box more. -/
theorem Rel'.addBox {C:Ctx} {st:St} {a:Act} {w0 w:World} {ρ:Rho} {im0 im:Im} (h0:Rel' C st a w0 ρ im0) (hs:Step ρ im0 w0 ρ im w) (h:Rel' C st a w ρ im) {b:Nat} (hbL:b<LENT) (hb:st.box b=none) (B:Box) (x:Option Nat)
    (hx: ∀g,x=some g→Own ρ g∨w0.heap.size≤g)
    (hB:Qda C.own w im ρ B x) (hn: ∀b' g B',x=some g→ρ b'=some (some g)→st.box b'=some B'→B'.live=false):
    Rel' C (st.setBox b B) a w (upd ρ b (some x)) im∧(∀b' x',ρ b'=some x'→upd ρ b (some x) b'=some x'):=by
  have hρb:ρ b=none:=(h.rho b).2 hb;have hρ: ∀b' x',ρ b'=some x'→upd ρ b (some x) b'=some x':=by
    intro b' x' hx;rw [Qal]
    · exact hx
    · rintro rfl;rw [hρb]at hx;cases hx
  refine⟨⟨h0.step ⟨hs.lent,hs.keep,?_,hs.mono,hs.imn⟩ ?_,h.nt,h.dfr,h.imc,?_,?_,?_,?_⟩,hρ⟩
  · rintro g ⟨b',hb'⟩;by_cases e:b'=b
    · subst e;simp only [Qao,Option.some.injEq]at hb';exact hx g hb'
    · rw [Qal _ _ _ _ e]at hb';exact .inl ⟨b',hb'⟩
  · intro b' x1 x' hL hx1 hx';rw [Qal _ _ _ _ (by omega)]at hx';exact h.root.rho0 b' x1 x' hL hx1 hx'
  · exact fun t v hv=>(h.var t v hv).mono (Keeps.refl _ _) (fun _ _ x=>x) hρ
  · intro b';by_cases e:b'=b
    · subst e;simp [Qao,St.setBox]
    · simp [Qal _ _ _ _ e,St.setBox,h.rho b']
  · intro b' x' B' hx hB';by_cases e:b'=b
    · subst e;simp only [Qao,Option.some.injEq]at hx;simp only [St.setBox,Qao,Option.some.injEq]at hB';subst hx;subst hB';exact hB.mono (Keeps.refl _ _) (fun _ _ x=>x) (fun _ _ _ _ x=>x) hρ (fun _ _ _=>rfl)
    · simp only [Qal _ _ _ _ e]at hx;simp only [St.setBox,Qal _ _ _ _ e]at hB';exact(h.box b' x' B' hx hB').mono (Keeps.refl _ _) (fun _ _ x=>x) (fun _ _ _ _ x=>x) hρ (fun _ _ _=>rfl)
  · intro b1 b2 g B1 B2 g1 g2 e1 e2 l1 l2;simp only [upd]at g1 g2;simp only [St.setBox,upd]at e1 e2;by_cases x1:b1=b<;>by_cases x2:b2=b
    · rw [x1,x2]
    · simp [x1]at g1;simp [x2]at g2 e2;rw [hn b2 g B2 g1 g2 e2]at l2;cases l2
    · simp [x1]at g1 e1;simp [x2]at g2;rw [hn b1 g B1 g2 g1 e1]at l1;cases l1
    · simp [x1]at g1 e1;simp [x2]at g2 e2;exact h.inj b1 b2 g B1 B2 g1 g2 e1 e2 l1 l2

/-- The cells of a list of elements,handed asx a slice. -/
theorem Rep.slc_cells {w:World} {im:Im} {xs:List PV} {u:Value} (h:Rep w im (.slc xs) u):
    (xs=[]∧ ∃c,u= .slice none 0 c)∨ ∃(A:Addr) (cap:Nat) (vs:List Value) (sz:Nat),u= .slice (some A) xs.length cap∧xs.length≤maxLen∧(∀e∈xs,e.cells.length=sz)∧
      (∀j v,vs[j]? =some v→w.cell? (A.add j)=some v)∧RepL w im (xs.flatMap PV.cells) vs∧xs.length≤cap:=by
  cases h with
  |slcNil c hm=>exact .inl ⟨rfl,c,rfl⟩
  |slcE p cap hm=>exact .inr ⟨p,cap,[],0,rfl,Nat.zero_le _,by simp,by simp,.nil,Nat.zero_le _⟩
  |slc _ g off len cap sz vs hn hm hz hi hc hr hcap=>
    subst hn;refine .inr ⟨⟨g,off,none⟩,cap,vs,sz,rfl,Nat.le_trans hcap hm,hz,?_,hr,hcap⟩;intro j v hv;have hj:j<vs.length:=(List.getElem?_eq_some_iff.1 hv).1;have:(⟨g,off,none⟩:Addr).add j=⟨g,off+j,none⟩:=by unfold Addr.add;split<;>simp_all
    rw [this,hc j hj,hv]

theorem Rep.okFlat {w:World} {im:Im} {vs:List PV} {us:List Value} (h:RepL w im vs us) (ho:vs.all PV.okCell=true): ∀u∈us,u.oneCell'=true:=
  (h.toLRL (ρ:=fun _=>none)).oneCells ho

theorem LR.bs_inv {w:World} {im:Im} {ρ:Rho} {b esz off len:Nat} {u:Value} (h:LR w im ρ (.bs b esz off len) u):
    (ρ b=some none∧(∃x:Option (Nat×Nat),u= .slice (x.map fun p=>⟨p.1,p.2,none⟩) 0 0)∧off=0∧len=0)∨ ∃g cap cur e,ρ b=some (some g)∧u= .slice (some ⟨g,off*esz,none⟩) len cap∧
      w.heap[g]? =some (Obj.cells cur e (0,0))∧off*esz+cap*esz≤cur.size∧len≤cap∧cap≤maxLen:=by
  cases h with
  |ext _ _ hh=>cases hh
  |bsNil _ _ x e=>exact .inl ⟨e,⟨x,rfl⟩,rfl,rfl⟩
  |bs _ _ _ _ g o cap cur e hh ho ho2 hc hl hm=>subst ho2;exact .inr ⟨g,cap,cur,e,hh,rfl,ho,hc,hl,hm⟩

theorem Qda.of_new {own:Nat→Prop} {w:World} {im:Im} {ρ:Rho} {B:Box} {g:Nat} {us rest:List Value} (hb:own g) (hg:w.heap[g]? =some (Obj.cells (us++rest).toArray B.ety (0,0)))
    (hf:B.fro≤B.els.length) (hz:0<B.esz) (he: ∀e∈B.els,e.cells.length=B.esz) (hr:RepL w im (B.els.flatMap PV.cells) us) (ho: ∀u∈us,u.oneCell'=true)
    (hi: ∀j,j<B.fro*B.esz→im g j) (hl:B.live=true) (hni: ∀j,B.fro*B.esz≤j→ ¬im g j) (hmp:B.mp=none:=by rfl):Qda own w im ρ B (some g):=
  ⟨hb,hf,hz,he,.inl ⟨hmp,(us++rest).toArray,us,rest,hg,by simp,hr.toLRL,fun _=>hr,ho,fun j _ hh=>hi j (hh.elim id fun x=>by rw [hl]at x;cases x),fun _=>hni⟩⟩

section
variable {P:Program}

theorem Qd4 (w:World) (t t2 ty e:TypeId) (i:TypeInfo) (ht:P.underlying t=some (.slice e)) (hi:P.info? e=some i) (e2:TypeId) (ht2:P.underlying t2=some (.slice e2))
    (b:Option Addr) (n c:Nat) (hn:n≤c) (cx:Nat):(Builtin.append_ #[t,t2] ty #[.slice b n c,.slice none 0 cx]).run P w= .ok (.slice b n c) w:=by
  cases b<;>simp [Builtin.append_,run_underlying ht,run_underlying ht2,sizeOf,typeInfo,hi,Builtin.lenOf,hn,Builtin.firstCells,storeCells]

theorem Qgg (w:World) (t ty e:TypeId) (i:TypeInfo) (ht:P.underlying t=some (.slice e)) (hi:P.info? e=some i) (x:Option Addr) (a:Addr) (c:Nat):
    (Builtin.append_ #[t,t] ty #[.slice x 0 0,.slice (some a) 0 c]).run P w= .ok (.slice x 0 0) w:=by
  cases x<;>simp [Builtin.append_,run_underlying ht,sizeOf,typeInfo,hi,Builtin.lenOf,Builtin.firstCells,loadCells,loadCellsFrom,storeCells]

end

/-- The old box is held,and the longer one lies in a new block. -/
theorem Rel'.append_new {C:Ctx} {st:St} {a:Act} {w:World} {ρ:Rho} {im:Im} (h:Rel' C st a w ρ im) {id:Nat} {els:List PV} {esz E:Nat} {us rest:List Value}
    (hidL:id<LENT) (hid:st.box id=none) (hz:0<esz) (he: ∀e∈els,e.cells.length=esz) (hr:RepL w im (els.flatMap PV.cells) us) (ho:(els.flatMap PV.cells).all PV.okCell=true)
    (n cap:Nat) (hn:n≤els.length) (hlen:els.length≤cap) (hcap:cap*esz≤us.length+rest.length) (hm:cap≤maxLen):
    ∃ρ' im',Rel' C (st.setBox id {els:=els,esz:=esz,ety:=E,fro:=n,live:=true,arr:=true}) a (w.drew.alloc (.cells (us++rest).toArray E)) ρ' im'∧
      LR (w.drew.alloc (.cells (us++rest).toArray E)) im' ρ' (.bs id esz 0 els.length) (.slice (some ⟨w.heap.size,0,none⟩) els.length cap):=by
  have hbl:Below w.heap.size w (w.drew.alloc (.cells (us++rest).toArray E)):=((Below.refl _ _).drew).alloc (Nat.le_refl _) _;have hg:(w.drew.alloc (.cells (us++rest).toArray E)).heap[w.heap.size]? =some (Obj.cells (us++rest).toArray E (0,0)):=heap_alloc_new w.drew _;generalize hw':w.drew.alloc (.cells (us++rest).toArray E)=w' at*;have h':=h.below_call hbl;have hk:Keeps im w w':=Keeps.of_below hbl h.imc;have hni: ∀j,¬im w.heap.size j:=fun j hj=>by
    obtain⟨u,hu⟩:=h.imc _ _ hj;have:=World.block_lt_of_cell? w _ hu;simp at this
  have hul:us.length=els.length*esz:=by rw [←hr.length,Qau he]
  have hnb:n*esz≤els.length*esz:=Nat.mul_le_mul_right _ hn;have h2:Rel' C st a w' ρ (fun g j=>im g j∨(g=w.heap.size∧j<n*esz)):=by
    refine h.grow (.of_below hbl) hk h' (fun _ _ x=> .inl x) ?_;rintro g j (x|⟨rfl,x⟩)
    · exact .inl x
    · refine .inr ⟨Nat.le_refl _,⟨us[j]'(by omega),?_⟩,fun b hb=> ?_⟩
      · rw [cell_of_row _ _ _ _ _ _ hg,List.getElem?_toArray,List.getElem?_append_left (by omega)];simp
      · have:=(h.block_lt hb).1;omega
  have hB:Qda C.own w' (fun g j=>im g j∨(g=w.heap.size∧j<n*esz)) ρ {els:=els,esz:=esz,ety:=E,fro:=n,live:=true,arr:=true} (some w.heap.size):=
    Qda.of_new (us:=us) (rest:=rest) (.inl h.root.below.size) hg hn hz he (hr.mono hk.cell fun _ _ x=> .inl x) (Rep.okFlat hr ho) (fun j hj=> .inr ⟨rfl,hj⟩) rfl
      (fun j hj x=>x.elim (hni j) fun y=>by have:=y.2;simp at hj;omega)
  obtain⟨h3,h4⟩:=h.addBox ⟨.of_below hbl,hk,fun _ x=> .inl x,fun _ _ x=> .inl x,fun g j x=>x.elim .inl fun y=> .inr (.inr (Nat.le_of_eq y.1.symm))⟩ h2 hidL hid _ _ (fun g e=> .inr (by cases e;exact Nat.le_refl _)) hB (fun b' g B' e1 e2 _=>by cases e1;have:=(h.block_lt e2).1;omega);refine⟨_,_,h3,?_⟩;exact .bs id esz 0 els.length w.heap.size 0 cap _ E (Qao _ _ _) hg (by simp) (by simp;omega) hlen hm

theorem Qeo {asx bs:List PV}:(asx++bs).flatMap PV.cells=asx.flatMap PV.cells++bs.flatMap PV.cells:=by simp

/-- A box of which nothing is known any more. -/
theorem Rel'.stale {C:Ctx} {st:St} {a:Act} {w:World} {ρ:Rho} {im:Im} (h:Rel' C st a w ρ im) {b:Nat} {B:Box} {loc:Option Nat} (hr0:ρ b=some loc) (hB:st.box b=some B) (hcl: ∀g,loc=some g→ ∃cur e,w.heap[g]? =some (Obj.cells cur e (0,0))):
    Rel' C (st.setBox b {B with els:=[],fro:=0,live:=false}) a w ρ im where
  root:=h.root
  nt:=h.nt
  dfr:=h.dfr
  imc:=h.imc
  var:=h.var
  rho:=fun b'=>by
    by_cases e:b'=b
    · subst e;simp [St.setBox,Qao,hr0]
    · simp [St.setBox,Qal _ _ _ _ e,h.rho b']
  box:=fun b' x B' hx hB'=>by
    by_cases e:b'=b
    · subst e;simp only [St.setBox,Qao,Option.some.injEq]at hB';subst hB';have hb:=h.box b' x B hx hB;cases x with
      |none=>obtain⟨_,z2,_,z4⟩:=hb;exact⟨rfl,z2,rfl,z4⟩
      |some g=>
        obtain⟨k1,_,k3,_,⟨hmn,cur,us,rest,k5,_⟩|hm⟩:=hb
        · exact⟨k1,Nat.le_refl _,k3,by simp,.inl ⟨hmn,cur,[],cur.toList,k5,by simp,.nil,fun _=> .nil,by simp,by simp,fun e=>by cases e⟩⟩
        · rw [hr0]at hx;cases hx;obtain⟨_,_,y⟩:=hcl g rfl;exact(hm.not_cells y).elim
    · simp only [St.setBox,Qal _ _ _ _ e]at hB';exact h.box b' x B' hx hB'
  inj:=fun b1 b2 g B1 B2 g1 g2 e1 e2 l1 l2=>by
    have key: ∀b' B',(st.setBox b {B with els:=[],fro:=0,live:=false}).box b'=some B'→B'.live=true→st.box b'=some B':=fun b' B' e l=>by
      by_cases y:b'=b
      · subst y;simp only [St.setBox,Qao,Option.some.injEq]at e;subst e;cases l
      · simpa only [St.setBox,Qal _ _ _ _ y]using e
    exact h.inj b1 b2 g B1 B2 g1 g2 (key _ _ e1 l1) (key _ _ e2 l2) l1 l2

theorem Rel'.append {C:Ctx} {st:St} {a:Act} {w:World} {ρ:Rho} {im:Im} (h:Rel' C st a w ρ im) {b id:Nat} {B:Box} {T ty:TypeId} {i:TypeInfo} {z:Value} {xs:List PV} {u x:Value}
    (ht:C.P.underlying T=some (.slice B.ety)) (hi:C.P.info? B.ety=some i) (hz:i.zero=some z) (hsz:i.size=B.esz) (hzs:z.cells.size=i.size)
    (hB:st.box b=some B) (hl:B.live=true) (ha:B.arr=true) (hu:LR w im ρ (.bs b B.esz 0 B.els.length) u) (hx:Rep w im (.slc xs) x)
    (hxz: ∀e∈xs,e.cells.length=B.esz) (hok:(B.els.flatMap PV.cells).all PV.okCell=true) (hokx:(xs.flatMap PV.cells).all PV.okCell=true)
    (hidL:id<LENT) (hid:st.box id=none) (hby:(B.els.length+xs.length)*i.bytes≤140737488355328) (h63:B.els.length+xs.length≤maxLen):
    ∃v' w' ρ' im',(Builtin.append_ #[T,T] ty #[u,x]).run C.P w= .ok v' w'∧
      Rel' C ((st.setBox b {B with els:=[],fro:=0,live:=false}).setBox id {els:=B.els++xs,esz:=B.esz,ety:=B.ety,fro:=B.fro,live:=true,arr:=true}) a w' ρ' im'∧
      LR w' im' ρ' (.bs id B.esz 0 (B.els.length+xs.length)) v':=by
  have hsmall:((B.els.length+xs.length:Nat):Int)≤9223372036854775807:=by simp only [maxLen]at h63;omega
  have hbid:id≠b:=by rintro rfl;rw [hB]at hid;cases hid
  cases hr0:ρ b with
  |none=>rw [(h.rho b).1 hr0]at hB;cases hB
  |some loc=>
  have hbox:=h.box b loc B hr0 hB;have hcl: ∀g,loc=some g→ ∃cur e,w.heap[g]? =some (Obj.cells cur e (0,0)):=by
    rintro g rfl;rcases hu.bs_inv with⟨e,_⟩|⟨g',_,cur,e,hh,_,ho,_⟩
    · rw [hr0]at e;cases e
    · rw [hr0]at hh;cases hh;exact⟨cur,e,ho⟩
  have h1:=h.stale hr0 hB hcl;generalize hst1:st.setBox b {B with els:=[],fro:=0,live:=false}=st1 at*;have hid1:st1.box id=none:=by rw [←hst1];simp [St.setBox,Qal _ _ _ _ hbid,hid]
  have hdead: ∀b' g B',loc=some g→ρ b'=some (some g)→st1.box b'=some B'→B'.live=false:=by
    intro b' g B' e1 e2 e3;by_cases y:b'=b
    · subst y;rw [←hst1]at e3;simp only [St.setBox,Qao,Option.some.injEq]at e3;rw [←e3]
    · rw [←hst1]at e3;simp only [St.setBox,Qal _ _ _ _ y]at e3;cases hBl:B'.live with
      |false=>rfl
      |true=>exact absurd (h.inj b' b g B' B e2 (by rw [hr0,e1]) e3 hB hBl hl) y
  have hlenapp:(B.els++xs).length=B.els.length+xs.length:=by simp
  have heall:0<B.esz∧(∀e∈B.els,e.cells.length=B.esz):=by
    cases loc with
    |none=>obtain⟨z1,_,_,z4⟩:=hbox;exact⟨z4,by rw [z1];simp⟩
    |some g=>obtain⟨_,_,h3,h4,_⟩:=hbox;exact⟨h3,h4⟩
  have heapp: ∀e∈B.els++xs,e.cells.length=B.esz:=by
    intro e he;rcases List.mem_append.1 he with y|y
    · exact heall.2 e y
    · exact hxz e y
  have hokapp:((B.els++xs).flatMap PV.cells).all PV.okCell=true:=by rw [Qeo,List.all_append,hok,hokx];rfl
  have himp: ∀g j,im g j→im g j:=fun _ _ y=>y
  -- nothing is appended, or there is nothing to append
  have same: ∀v,xs=[]→u=v→LR w im ρ (.bs b B.esz 0 B.els.length) u→
      ∃ρ' im',Rel' C (st1.setBox id {els:=B.els++xs,esz:=B.esz,ety:=B.ety,fro:=B.fro,live:=true,arr:=true}) a w ρ' im'∧LR w im' ρ' (.bs id B.esz 0 (B.els.length+xs.length)) v:=by
    rintro v rfl rfl hu';have hBA:Qda C.own w im ρ {els:=B.els++[],esz:=B.esz,ety:=B.ety,fro:=B.fro,live:=true,arr:=true} loc:=by
      cases loc with
      |none=>obtain⟨z1,_,z3,z4⟩:=hbox;exact⟨by simp [z1],rfl,z3,z4⟩
      |some g=>
        obtain⟨h1,h2,h3,h4,⟨hmn,cur,us,rest,h5,h6,h7,h8,h9,h10,h11⟩|hm⟩:=hbox
        case inr=>obtain⟨_,_,y⟩:=hcl g rfl;exact(hm.not_cells y).elim
        refine⟨h1,by simpa using h2,h3,by simpa using h4,.inl ⟨rfl,cur,us,rest,h5,h6,?_,?_,h9,?_,?_⟩⟩
        · simpa using h7
        · intro _;simpa using h8 ha
        · intro j hj hh;simp at hh;exact h10 j hj (.inl hh)
        · intro _ j hj y;exact h11 hl j hj y
    obtain⟨h3,h4⟩:=h1.addBox ⟨.refl _ _ _,Keeps.refl _ _,fun _ x=> .inl x,fun _ _ x=>x,fun _ _ x=> .inl x⟩ h1 hidL hid1 _ _ (fun g e=> .inl ⟨b,by rw [hr0,e]⟩) hBA hdead;refine⟨_,_,h3,?_⟩;simp only [List.length_nil,Nat.add_zero];rcases hu'.bs_inv with⟨e,⟨x0,rfl⟩,_,e0⟩|⟨g,cap,cur,e,hh,rfl,ho,hc,hl',hm⟩
    · rw [hr0]at e;cases e;rw [e0];exact .bsNil _ _ _ (Qao _ _ _)
    · rw [hr0]at hh;cases hh;exact .bs _ _ _ _ g _ cap cur e (Qao _ _ _) ho rfl hc hl' hm
  have hu1:LR w im ρ (.bs b B.esz 0 B.els.length) u:=hu.mono (Keeps.refl _ _) himp (fun _ _ x=>x);rcases hx.slc_cells with⟨rfl,cx,rfl⟩|⟨Ax,capx,vsx,szx,rfl,hmx,hzx,hcx,hrx,hcapx⟩
  · -- a nil slice is appended
    have hrun:(Builtin.append_ #[T,T] ty #[u,.slice none 0 cx]).run C.P w= .ok u w:=by
      rcases hu.bs_inv with⟨e,⟨x0,rfl⟩,_,e0⟩|⟨g,cap,cur,e,hh,rfl,ho,hc,hl',hm⟩
      · exact Qd4 w T T ty B.ety i ht hi B.ety ht _ 0 0 (Nat.le_refl _) cx
      · exact Qd4 w T T ty B.ety i ht hi B.ety ht _ _ _ hl' cx
    obtain⟨ρ',im',e1,e2⟩:=same u rfl rfl hu1;exact⟨u,w,ρ',im',hrun,e1,e2⟩
  · have hvl:vsx.length=xs.length*B.esz:=by rw [←hrx.length,Qau hxz]
    have hox: ∀v∈vsx,v.oneCell'=true:=Rep.okFlat hrx hokx;cases loc with
    |none=>
      obtain⟨z1,_,z3,z4⟩:=hbox;obtain⟨x0,hu0⟩: ∃x0:Option Addr,u= .slice x0 0 0:=by
        rcases hu.bs_inv with⟨e,⟨x0,rfl⟩,_,e0⟩|⟨g,cap,cur,e,hh,rfl,ho,hc,hl',hm⟩
        · exact⟨_,rfl⟩
        · rw [hr0]at hh;cases hh
      by_cases hm0:xs.length=0
      · have hxs:xs=[]:=List.length_eq_zero_iff.1 hm0;obtain⟨ρ',im',e1,e2⟩:=same u hxs rfl hu1;refine⟨u,w,ρ',im',?_,e1,e2⟩;rw [hu0,hm0];exact Qgg w T ty B.ety i ht hi _ _ _
      · have zl:B.els.length=0:=by rw [z1];rfl
        have hrun:(Builtin.append_ #[T,T] ty #[.slice x0 0 0,.slice (some Ax) xs.length capx]).run C.P w=
            .ok (.slice (some ⟨w.heap.size,0,none⟩) xs.length (grownCap w xs.length 0 B.ety)) (w.drew.alloc (.cells (vsx.toArray++Builtin.zeroCells z.cells (grownCap w xs.length 0 B.ety-xs.length)) B.ety)):=by
          cases x0 with
          |none=>exact run_append_nil w T ty B.ety i z ht hi hz Ax xs.length capx vsx (by rw [hsz];exact hvl) hcx (by omega) (by omega) (by rw [zl,Nat.zero_add]at hby;omega)
          |some a0=>
            have:=run_append_grow (P:=C.P) w T ty B.ety i z ht hi hz a0 0 0 [] (by simp) (by simp) Ax xs.length capx vsx (by rw [hsz];exact hvl) hcx
              (by omega) (by omega) (growslice_fits (by omega) (by rw [zl]at hby;exact hby))
            simpa using this
        have hcapg:=grownCap_ge w xs.length 0 B.ety;have hcapm:=grownCap_le_maxLen w xs.length 0 B.ety hmx;have hzc:(Builtin.zeroCells z.cells (grownCap w xs.length 0 B.ety-xs.length)).size=(grownCap w xs.length 0 B.ety-xs.length)*B.esz:=by rw [size_zeroCells,hzs,hsz]
        generalize grownCap w xs.length 0 B.ety=cap at*;generalize Builtin.zeroCells z.cells (cap-xs.length)=zc at*;have harr:vsx.toArray++zc=(vsx++zc.toList).toArray:=by apply Array.ext';simp
        rw [harr]at hrun;have hmul:cap*B.esz=xs.length*B.esz+(cap-xs.length)*B.esz:=by rw [←Nat.add_mul];congr 1;omega
        obtain⟨ρ',im',e1,e2⟩:=h1.append_new (els:=B.els++xs) (E:=B.ety) (us:=vsx) (rest:=zc.toList) hidL hid1 z4 heapp (by have:=hrx.mono (fun _ _ _=>rfl) himp;rw [Qeo,z1];simpa [z1]using this) hokapp B.fro cap
          (by rw [z3];exact Nat.zero_le _) (by rw [z1];simpa using hcapg) (by simp;omega) hcapm
        rw [hlenapp]at e2;have z0:B.els.length=0:=by rw [z1];rfl
        have e2':=e2;simp only [z0,Nat.zero_add]at e2' ⊢;refine⟨_,_,ρ',im',?_,by simpa [z0]using e1,e2'⟩;rw [hu0];exact hrun
    |some g=>
      obtain⟨b1,b2,b3,b4,⟨hmn,cur,us,rest,b5,b6,b7,b8,b9,b10,b11⟩|hm⟩:=hbox
      case inr=>obtain⟨_,_,y⟩:=hcl g rfl;exact(hm.not_cells y).elim
      obtain⟨cap,hu0,hcap1,hcap2,hcap3⟩: ∃cap,u= .slice (some ⟨g,0,none⟩) B.els.length cap∧cap*B.esz≤cur.size∧B.els.length≤cap∧cap≤maxLen:=by
        rcases hu.bs_inv with⟨hh,_⟩|⟨g',cap,cur',e,hh,e1,ho,hc,hl',hm⟩
        · rw [hr0]at hh;cases hh
        · rw [hr0]at hh;cases hh;rw [b5]at ho;cases ho;rw [Nat.zero_mul]at e1;exact⟨cap,e1,by simpa using hc,hl',hm⟩
      subst hu0;have hul:us.length=B.els.length*B.esz:=by rw [←b7.length,Qau b4]
      have hcs:cur.size=us.length+rest.length:=by rw [←Array.length_toList,b6];simp
      have hrepB:RepL w im (B.els.flatMap PV.cells) us:=b8 ha;have happ:RepL w im ((B.els++xs).flatMap PV.cells) (us++vsx):=by
        rw [Qeo];exact(hrepB.append hrx).mono (fun _ _ _=>rfl) himp
      by_cases hroom:B.els.length+xs.length≤cap
      · have hmulr:(B.els.length+xs.length)*B.esz≤cap*B.esz:=Nat.mul_le_mul_right _ hroom;have hsum:(B.els.length+xs.length)*B.esz=B.els.length*B.esz+xs.length*B.esz:=Nat.add_mul _ _ _;have hrun:=run_append_room (P:=C.P) w T ty B.ety i ht hi g B.els.length cap cur b5 Ax xs.length capx vsx (by rw [hsz];exact hvl) hcx hox hroom (by rw [hsz];omega);rw [hsz]at hrun;have hcur':(cur.toList.take (B.els.length*B.esz)++vsx++cur.toList.drop (B.els.length*B.esz+vsx.length))=(us++vsx)++cur.toList.drop (B.els.length*B.esz+vsx.length):=by
          congr 2;rw [b6,←hul];simp
        rw [hcur']at hrun;have hsz':((us++vsx)++cur.toList.drop (B.els.length*B.esz+vsx.length)).toArray.size=cur.size:=by simp;omega
        have hk:Keeps im w (w.setRow g ((us++vsx)++cur.toList.drop (B.els.length*B.esz+vsx.length)).toArray):=by
          refine Keeps.setRow b5 hsz' ?_;intro j hj;have hj':j<B.els.length*B.esz:=by
            rcases Nat.lt_or_ge j (B.fro*B.esz)with y|y
            · have:B.fro*B.esz≤B.els.length*B.esz:=Nat.mul_le_mul_right _ b2;omega
            · exact absurd hj (b11 hl j y)
          rw [←hcur',List.getElem?_toArray,Qe7 _ _ _ _ (by simp;omega) (.inl hj'),Array.getElem?_toList]
        have hg':=setRow_heap w g cur ((us++vsx)++cur.toList.drop (B.els.length*B.esz+vsx.length)).toArray B.ety _ b5;have hlr:=Lent.setRow (w:=w) (X:=Own ρ) ⟨b,hr0⟩ w.heap.size ((us++vsx)++cur.toList.drop (B.els.length*B.esz+vsx.length)).toArray;have h2:=h1.world (w':=w.setRow g ((us++vsx)++cur.toList.drop (B.els.length*B.esz+vsx.length)).toArray) hlr hk (by
          intro b' g' B' e1 e2 e3;by_cases y:g'=g
          · subst y;rw [hdead b' g' B' rfl e1 e2]at e3;cases e3
          · exact Qcl w g g' _ y)
        have hBA:Qda C.own (w.setRow g ((us++vsx)++cur.toList.drop (B.els.length*B.esz+vsx.length)).toArray) im ρ
            {els:=B.els++xs,esz:=B.esz,ety:=B.ety,fro:=B.fro,live:=true,arr:=true} (some g):=
          Qda.of_new (B:={els:=B.els++xs,esz:=B.esz,ety:=B.ety,fro:=B.fro,live:=true,arr:=true}) (us:=us++vsx) (rest:=cur.toList.drop (B.els.length*B.esz+vsx.length)) b1 hg' (by simp;omega) b3 heapp (happ.mono hk.cell fun _ _ y=>y)
            (by
              intro v hv;rcases List.mem_append.1 hv with y|y
              · exact b9 v y
              · exact hox v y) (fun j hj=>b10 j (by
                  have:B.fro*B.esz≤B.els.length*B.esz:=Nat.mul_le_mul_right _ b2;have hj':j<B.fro*B.esz:=hj;omega) (.inl hj)) rfl (by
              intro j hj y;exact b11 hl j hj y)
        obtain⟨h3,h4⟩:=h1.addBox ⟨hlr,hk,fun _ x=> .inl x,fun _ _ x=>x,fun _ _ x=> .inl x⟩ h2 hidL hid1 _ _ (fun g' e=> .inl ⟨b,by rw [hr0,e]⟩) hBA hdead;refine⟨_,_,_,_,hrun,h3,?_⟩;exact .bs id B.esz 0 (B.els.length+xs.length) g 0 cap _ B.ety (Qao _ _ _) hg' (by simp) (by rw [hsz'];omega) hroom hcap3
      · have holds: ∀j v,us[j]? =some v→w.cell? ((⟨g,0,none⟩:Addr).add j)=some v:=by
          intro j v hv;have hj:j<us.length:=(List.getElem?_eq_some_iff.1 hv).1;have:(⟨g,0,none⟩:Addr).add j=⟨g,j,none⟩:=by unfold Addr.add;split<;>simp_all
          rw [this,cell_of_row _ _ _ _ _ _ b5,←Array.getElem?_toList,b6,List.getElem?_append_left hj,hv]
        have hrun:=run_append_grow (P:=C.P) w T ty B.ety i z ht hi hz ⟨g,0,none⟩ B.els.length cap us (by rw [hsz];exact hul) holds Ax xs.length capx vsx (by rw [hsz];exact hvl) hcx
          (by omega) hsmall (growslice_fits (by omega) hby)
        have hcapg:=grownCap_ge w (B.els.length+xs.length) cap B.ety;have hcapm:=grownCap_le_maxLen w (B.els.length+xs.length) cap B.ety h63;have hzc:(Builtin.zeroCells z.cells (grownCap w (B.els.length+xs.length) cap B.ety-(B.els.length+xs.length))).size=(grownCap w (B.els.length+xs.length) cap B.ety-(B.els.length+xs.length))*B.esz:=by rw [size_zeroCells,hzs,hsz]
        generalize grownCap w (B.els.length+xs.length) cap B.ety=ncap at*;generalize Builtin.zeroCells z.cells (ncap-(B.els.length+xs.length))=zc at*;have harr:us.toArray++vsx.toArray++zc=((us++vsx)++zc.toList).toArray:=by apply Array.ext';simp
        rw [harr]at hrun;have hmul:ncap*B.esz=(B.els.length+xs.length)*B.esz+(ncap-(B.els.length+xs.length))*B.esz:=by rw [←Nat.add_mul];congr 1;omega
        have hsum:(B.els.length+xs.length)*B.esz=B.els.length*B.esz+xs.length*B.esz:=Nat.add_mul _ _ _;obtain⟨ρ',im',e1,e2⟩:=h1.append_new (els:=B.els++xs) (E:=B.ety) (us:=us++vsx) (rest:=zc.toList) hidL hid1 b3 heapp happ hokapp B.fro ncap
          (by simp;omega) (by rw [hlenapp];omega) (by simp;omega) hcapm
        rw [hlenapp]at e2;exact⟨_,_,ρ',im',hrun,e1,e2⟩

def Qfr (P:Program) (rec:TypeId→Option (List Nat)):List Field→Nat→Option (List Nat)
 | [],_=>some []
 |f::fs,off=>if f.name= "_" then none else if f.offset=off then(match rec f.type with
   |none=>none
   |some sh=>if P.cellsOf f.type=sh.length∧(P.info? f.type).isSome=true∧sh≠ []then(match Qfr P rec fs (off+sh.length)with
    |some r=>some (sh++r)
    |none=>none)else none)else none
def Qb3 (P:Program):Nat→TypeId→Option (List Nat)
 |0,_=>none
 |d+1,t=>match P.underlying t with
  |some .bool=>some [0]
  |some (.int _)=>some [1]
  |some .string=>some [2]
  |some (.struct fs)=>if P.stoodInHeld t=true then none else Qfr P (Qb3 P d) fs.toList 0
  |_=>none
def Qat:List Nat→List PV→List PV→Option Bool
 | [],[],[]=>some true
 |0::s,.bool a::xs,.bool b::ys=>(Qat s xs ys).map fun r=>(a==b)&&r
 |1::s,.int k a::xs,.int k' b::ys=>if k=k' then(Qat s xs ys).map fun r=>(a==b)&&r else none
 |2::s,.str a::xs,.str b::ys=>(Qat s xs ys).map fun r=>(a==b)&&r
 |_,_,_=>none
theorem Qb1: ∀{s:List Nat} {xs ys:List PV} {b:Bool},Qat s xs ys=some b→xs.length=s.length∧ys.length=s.length
 | [],xs,ys,b,h=>by
  unfold Qat at h;split at h<;>first|exact⟨rfl,rfl⟩|(rename_i e;cases e)|cases h
 |k::s,xs,ys,b,h=>by
  unfold Qat at h;split at h
  ·rename_i e;cases e
  ·rename_i e;cases e;obtain⟨r,hr,_⟩:=Option.map_eq_some_iff.1 h;have:=Qb1 hr;simp [this]
  ·rename_i e;cases e;split at h
   ·obtain⟨r,hr,_⟩:=Option.map_eq_some_iff.1 h;have:=Qb1 hr;simp [this]
   ·cases h
  ·rename_i e;cases e;obtain⟨r,hr,_⟩:=Option.map_eq_some_iff.1 h;have:=Qb1 hr;simp [this]
  ·cases h
theorem Qds: ∀{s r:List Nat} {xs ys:List PV} {b:Bool},Qat (s++r) xs ys=some b→
  ∃b1 b2,Qat s (xs.take s.length) (ys.take s.length)=some b1∧Qat r (xs.drop s.length) (ys.drop s.length)=some b2∧b=(b1&&b2)
 | [],r,xs,ys,b,h=>⟨true,b,by simp [Qat],by simpa using h,by simp⟩
 |k::s,r,xs,ys,b,h=>by
  rw [List.cons_append]at h;unfold Qat at h;split at h
  ·rename_i e;cases e
  ·rename_i e;cases e;obtain⟨c,hc,rfl⟩:=Option.map_eq_some_iff.1 h;obtain⟨b1,b2,h1,h2,rfl⟩:=Qds hc;exact⟨_,b2,(by rw [List.length_cons,List.take_succ_cons,List.take_succ_cons,Qat,h1];first|rfl|(rw [if_pos rfl];rfl)),by simpa using h2,by simp [Bool.and_assoc]⟩
  ·rename_i e;cases e;split at h
   ·rename_i hk;subst hk;obtain⟨c,hc,rfl⟩:=Option.map_eq_some_iff.1 h;obtain⟨b1,b2,h1,h2,rfl⟩:=Qds hc;exact⟨_,b2,(by rw [List.length_cons,List.take_succ_cons,List.take_succ_cons,Qat,h1];first|rfl|(rw [if_pos rfl];rfl)),by simpa using h2,by simp [Bool.and_assoc]⟩
   ·cases h
  ·rename_i e;cases e;obtain⟨c,hc,rfl⟩:=Option.map_eq_some_iff.1 h;obtain⟨b1,b2,h1,h2,rfl⟩:=Qds hc;exact⟨_,b2,(by rw [List.length_cons,List.take_succ_cons,List.take_succ_cons,Qat,h1];first|rfl|(rw [if_pos rfl];rfl)),by simpa using h2,by simp [Bool.and_assoc]⟩
  ·cases h
theorem Qwi {a c:List PV} {b:Bool} (h:Qat [] a c=some b):b=true:=by
 cases a<;>cases c<;>simp_all [Qat]
def Whole (us:List Value) (v:Value):Prop:=us=[v]∨v= .agg us.toArray
section
variable {P:Program} {w:World} {im:Im} {ρ:Rho}
theorem Qkb {t:TypeId} {us:List Value} {off:Nat} {i:TypeInfo} (hi:P.info? t=some i) (hu:(P.underlying t).isSome=true) (hl:off+i.size≤us.length)
  (hsz:(match P.underlying t with|some (.struct _)|some (.array _ _)=>true|_=>false)=false→i.size=1):
  ∃v,(part t us.toArray off).run P w= .ok v w∧((match P.underlying t with|some (.struct _)|some (.array _ _)=>true|_=>false)=true→v= .agg ((us.drop off).take i.size).toArray)∧
   ((match P.underlying t with|some (.struct _)|some (.array _ _)=>true|_=>false)=false→(us.drop off).take i.size=[v]):=by
 obtain⟨d,hd⟩:=Option.isSome_iff_exists.1 hu;have hs:(sizeOf t).run P w= .ok i.size w:=by simp [sizeOf,typeInfo,hi]
 have hag: ∀b,(isAgg t).run P w= .ok b w↔b=(match P.underlying t with|some (.struct _)|some (.array _ _)=>true|_=>false):=by
  intro b;rw [hd];cases d<;>simp [isAgg,run_underlying hd]<;>exact eq_comm
 cases hb:(match P.underlying t with|some (.struct _)|some (.array _ _)=>true|_=>false)with
 |true=>
  refine⟨.agg ((us.drop off).take i.size).toArray,?_,fun _=>rfl,fun h=>by cases h⟩;have:=(hag true).2 hb.symm;simp only [part,Sem.run_bind,this,Result.andThen_ok,if_true,hs,Sem.run_pure];congr 2;apply Array.ext';simp [List.extract_eq_take_drop]
 |false=>
  have h1:=hsz hb;have hlt:off<us.length:=by omega
  refine⟨us[off],?_,fun h=>(by cases h),fun _=> ?_⟩
  ·have:=(hag false).2 hb.symm;simp [part,this,hlt]
  ·rw [h1];simp [List.take_one,List.head?_drop,hlt]
theorem Qfs: ∀(d:Nat) (t:TypeId) (sh:List Nat) (xs ys:List PV) (us vs:List Value) (x y:Value) (b:Bool),Qb3 P d t=some sh→Qat sh xs ys=some b→LRL w im ρ xs us→LRL w im ρ ys vs→
  ((match P.underlying t with|some (.struct _)|some (.array _ _)=>true|_=>false)=true→x= .agg us.toArray∧y= .agg vs.toArray)→
  ((match P.underlying t with|some (.struct _)|some (.array _ _)=>true|_=>false)=false→us=[x]∧vs=[y])→(Op.equalIn d t x y).run P w= .ok b w
 |0,_,_,_,_,_,_,_,_,_,h,_,_,_,_,_=>by cases h
 |d+1,t,sh,xs,ys,us,vs,x,y,b,hsh,hc,hx,hy,hagg,hone=>by
  unfold Qb3 at hsh;have inv1: ∀{v:PV} {u:Value},LRL w im ρ [v] [u]→LR w im ρ v u:=fun h=>by cases h with|cons _ _ _ _ h _=>exact h
  split at hsh
  ·rename_i hu;cases hsh;obtain⟨rfl,rfl⟩:=hone (by rw [hu]);unfold Qat at hc;split at hc<;>first|(rename_i e;cases e;done)|skip
   ·rename_i a xs' b' ys' e;cases e;obtain⟨r,hr,rfl⟩:=Option.map_eq_some_iff.1 hc;have hl:=Qb1 hr;have e1:xs'=[]:=List.length_eq_zero_iff.1 hl.1;have e2:ys'=[]:=List.length_eq_zero_iff.1 hl.2;subst e1;subst e2;simp [Qat]at hr;subst hr;cases inv1 hx with|ext _ _ h1=>cases h1;cases inv1 hy with|ext _ _ h2=>cases h2;simp [Op.equalIn,run_underlying hu]
   ·cases hc
  ·rename_i k hu;cases hsh;obtain⟨rfl,rfl⟩:=hone (by rw [hu]);unfold Qat at hc;split at hc<;>first|(rename_i e;cases e;done)|skip
   ·rename_i k1 a xs' k2 b' ys' e;cases e;split at hc
    ·rename_i hk;subst hk;obtain⟨r,hr,rfl⟩:=Option.map_eq_some_iff.1 hc;have hl:=Qb1 hr;have e1:xs'=[]:=List.length_eq_zero_iff.1 hl.1;have e2:ys'=[]:=List.length_eq_zero_iff.1 hl.2;subst e1;subst e2;simp [Qat]at hr;subst hr;cases inv1 hx with|ext _ _ h1=>cases h1;cases inv1 hy with|ext _ _ h2=>cases h2;simp [Op.equalIn,run_underlying hu]
    ·cases hc
   ·cases hc
  ·rename_i hu;cases hsh;obtain⟨rfl,rfl⟩:=hone (by rw [hu]);unfold Qat at hc;split at hc<;>first|(rename_i e;cases e;done)|skip
   ·rename_i a xs' b' ys' e;cases e;obtain⟨r,hr,rfl⟩:=Option.map_eq_some_iff.1 hc;have hl:=Qb1 hr;have e1:xs'=[]:=List.length_eq_zero_iff.1 hl.1;have e2:ys'=[]:=List.length_eq_zero_iff.1 hl.2;subst e1;subst e2;simp [Qat]at hr;subst hr;cases inv1 hx with|ext _ _ h1=>cases h1;cases inv1 hy with|ext _ _ h2=>cases h2;simp [Op.equalIn,run_underlying hu]
   ·cases hc
  ·rename_i fs hu;split at hsh
   ·cases hsh
   rename_i hst;have hst:P.stoodInHeld t=false:=by simpa using hst
   obtain⟨rfl,rfl⟩:=hagg (by rw [hu]);simp only [Op.equalIn,Sem.run_bind,run_underlying hu,Result.andThen_ok];have key: ∀(l:List Field) (off:Nat) (sh:List Nat) (b:Bool),Qfr P (Qb3 P d) l off=some sh→Qat sh (xs.drop off) (ys.drop off)=some b→off≤xs.length→off≤ys.length→
     ((forIn l ((none:Option Bool),()) fun(f:Field) (__s:Option Bool×Unit)=>
      if f.name= "_" then(pure (ForInStep.yield (none,())):Sem (ForInStep (Option Bool×Unit)))else do
       let x←part f.type us.toArray f.offset
       let y←part f.type vs.toArray f.offset
       let r←Op.equalIn d f.type x y
       if r=false then pure (ForInStep.done (some false,()))else pure (ForInStep.yield (none,()))).run P w)= .ok (if b then none else some false,()) w:=by
    intro l
    induction l with
    |nil=>
     intro off sh b h1 h2 _ _;simp [Qfr]at h1;subst h1;have:=Qwi h2;subst this;simp
    |cons f fs ih=>
     intro off sh b h1 h2 hlx hly;unfold Qfr at h1;split at h1
     ·cases h1
     rename_i hname;split at h1
     case isFalse=>cases h1
     rename_i hoff;subst hoff;split at h1
     ·cases h1
     rename_i sh1 hsh1;split at h1
     case isFalse=>cases h1
     rename_i hcell;obtain⟨hcell,hinfo,hne⟩:=hcell;split at h1
     case h_2=>cases h1
     rename_i sh2 hsh2;cases h1;obtain⟨b1,b2,k1,k2,rfl⟩:=Qds h2;obtain⟨i,hi⟩:=Option.isSome_iff_exists.1 hinfo;have hcs:i.size=sh1.length:=by rw [←hcell];simp [Program.cellsOf,hi]
     have kl:=Qb1 k1;simp only [List.length_take,List.length_drop]at kl;have hund:(P.underlying f.type).isSome=true:=by
      cases d with
      |zero=>cases hsh1
      |succ d=>
       unfold Qb3 at hsh1;split at hsh1<;>first|(rename_i e;rw [e];rfl)|cases hsh1
     have hag1:(match P.underlying f.type with|some (.struct _)|some (.array _ _)=>true|_=>false)=false→i.size=1:=by
      intro hh;cases d with
      |zero=>cases hsh1
      |succ d=>
       unfold Qb3 at hsh1;split at hsh1
       ·cases hsh1;exact hcs
       ·cases hsh1;exact hcs
       ·cases hsh1;exact hcs
       ·rename_i e;rw [e]at hh;cases hh
       ·cases hsh1
     have lx:=hx.length;have ly:=hy.length;obtain⟨p1,q1,q2,q3⟩:=Qkb (P:=P) (w:=w) (us:=us) (off:=f.offset) hi hund (by omega) hag1;obtain⟨p2,r1,r2,r3⟩:=Qkb (P:=P) (w:=w) (us:=vs) (off:=f.offset) hi hund (by omega) hag1;have heq:=Qfs d f.type sh1 ((xs.drop f.offset).take sh1.length) ((ys.drop f.offset).take sh1.length) ((us.drop f.offset).take i.size) ((vs.drop f.offset).take i.size) p1 p2 b1 hsh1 k1
      (by rw [hcs];exact(hx.drop _).take _) (by rw [hcs];exact(hy.drop _).take _) (fun hh=>⟨q2 hh,r2 hh⟩) (fun hh=>⟨q3 hh,r3 hh⟩)
     rw [List.forIn_cons];simp only [Sem.run_bind,hname,if_false,q1,r1,Result.andThen_ok,heq];cases b1 with
     |false=>simp
     |true=>
      simp only [Bool.true_eq_false,if_false,Sem.run_pure,Result.andThen_ok,Bool.true_and];rw [List.drop_drop,List.drop_drop]at k2;exact ih (f.offset+sh1.length) sh2 b2 hsh2 k2 (by omega) (by omega)
   have:=key fs.toList 0 sh b hsh (by simpa using hc) (Nat.zero_le _) (Nat.zero_le _);rw [Array.forIn_toList]at this;simp [hst];rw [this];cases b<;>simp
  ·cases hsh
end
end Go.Vl

namespace Go.Vl
inductive Eff where
 |new (b:Nat) (B:Box)
 |wr (b i:Nat) (e:PV)
 |fro (b n:Nat)
 |kill (b:Nat)
 |yld (args:List PV)
abbrev YID:Nat:=999999
def Eff.id:Eff→Nat
 | .new b _| .wr b _ _| .fro b _| .kill b=>b
 | .yld _=>YID
def Eff.hard:Eff→Bool
 | .fro _ _=>false
 |_=>true
def Eff.on (e:Eff) (st:St):St:=
 match e with
 | .new b B=>st.setBox b B
 | .wr b i v=>match st.box b with
  |some B=>st.setBox b {B with els:=B.els.set i v}
  |none=>st
 | .fro b n=>match st.box b with
  |some B=>st.setBox b {B with fro:=max B.fro n,live:=B.live&&true}
  |none=>st
 | .kill b=>match st.box b with
  |some B=>st.setBox b {B with els:=[],fro:=0,live:=false}
  |none=>st
 | .yld args=>{st with out:=st.out++[args]}
def Qan (es:List Eff) (st:St):St:=es.foldl (fun s e=>e.on s) st
inductive Out where
 |done (v:PV) (effs:List Eff)
 |call (f:FuncId) (args:List PV) (effs:List Eff)
 |callB (f:FuncId) (args:List PV) (bxs:List (Nat×Box)) (effs:List Eff) (θ ν:List (Nat×Nat))
 |yield (n stop:Nat) (args:List PV) (effs:List Eff)
structure SB where
 els:List PV
 esz:Nat
 ety:TypeId
 arr:Bool
def Box.soft (B:Box):SB:=⟨B.els,B.esz,B.ety,B.arr⟩
abbrev Bx:=Nat→Option Box
abbrev Acc:=List (Nat×Bool)
abbrev M (α:Type):=Bx→Option (α×Acc)
def M.pure {α:Type} (a:α):M α:=fun _=>some (a,[])
def M.fail {α:Type}:M α:=fun _=>none
def M.bind {α β:Type} (m:M α) (f:α→M β):M β:=fun bx=>
 match m bx with
 |none=>none
 |some (a,l)=>match f a bx with
  |none=>none
  |some (c,l')=>some (c,l++l')
def M.soft (b:Nat):M SB:=fun bx=>match bx b with
 |some B=>some (B.soft,[(b,false)])
 |none=>none
def M.hard (b:Nat):M (Option Box):=fun bx=>some (bx b,[(b,true)])
def M.ofOpt {α:Type} (x:Option α):M α:=fun _=>x.map fun a=>(a,[])
def M.ok (c:Bool):M Unit:=fun _=>if c then some ((),[])else none
def Qa8 (P:Program) (t:TypeId):Bool:=match P.underlying t with
 |some (.struct _)|some (.array _ _)=>true
 |_=>false
def tyOk (P:Program) (t:TypeId):Bool:=(P.underlying t).isSome&&(P.info? t).isSome
def Qbl (P:Program) (t:TypeId):Option TypeId:=match P.underlying t with
 |some (.slice e)=>some e
 |_=>none
def Qfl (P:Program) (t:TypeId):Option (Nat×TypeId):=match P.underlying t with
 |some (.array n e)=>some (n,e)
 |_=>none
def Qaq (P:Program) (t:TypeId) (f:Nat):Option (Nat×TypeId×Nat):=match P.underlying t with
 |some (.struct fs)=>match fs[f]? with
  |some x=>match P.info? x.type with
   |some i=>if i.size=0 then none else some (x.offset,x.type,i.size)
   |none=>none
  |none=>none
 |_=>none
def Qap (P:Program) (t:TypeId):Option (Nat×Nat):=(P.info? t).map fun i=>(i.size,i.bytes)
def Qep:Value→Option PV
 | .bool b=>some (.bool b)
 | .int k n=>some (.int k n)
 | .string s=>some (.str s)
 | .slice none 0 0=>some .nilS
 | .nilFunc=>some .nilF
 | .nilIface=>some .nilI
 | .map none=>some .nilM
 | .pointer none=>some .nilP
 | .func (.func f) a b=>if a.size=0∧b.size=0 then some (.fn f [] [])else none
 |_=>none
def Qci:List Value→Option (List PV)
 | []=>some []
 |v::vs=>match Qep v,Qci vs with
  |some x,some xs=>some (x::xs)
  |_,_=>none
def Qfm:Value→Option PV
 | .agg cs=>(Qci cs.toList).map .agg
 | .tuple cs=>if cs.size=0 then some (.tup [])else none
 |v=>Qep v
def Qar (P:Program) (t:TypeId):Option PV:=match P.info? t with
 |some i=>match i.zero with
  |some z=>Qfm z
  |none=>none
 |none=>none
def Zo4 (P:Program) (t:TypeId):Option PV:=match P.info? t with
 |some i=>match i.zero with
  |some (.agg cs)=>some (.agg (List.replicate cs.size .undef))
  |_=>none
 |none=>none
def Qo2 (P:Program) (t:TypeId):Option PV:=match Qar P t with
 |some z=>some z
 |none=>Zo4 P t
def Qct:PV→Bool
 | .bool _| .int _ _| .str _| .nilS| .nilF| .nilI| .nilP| .slc _| .rp _=>true
 | .fn _ [] []=>true
 |_=>false
def escS:PV→M (PV×List Eff)
 | .bs b esz off len=> .bind (.soft b) fun B=> .bind (.ok (B.arr&&B.esz==esz&&off+len≤B.els.length)) fun _=> .pure (.slc ((B.els.drop off).take len),[.fro b (off+len)])
 | .nilS=> .pure (.slc [],[])
 | .fn f [] c=> .bind (.ok (c.all Qct)) fun _=> .pure (.fn f [] c,[])
 | .fn _ _ _| .bp _ _ _ _| .undef| .tup _| .agg _| .mp _=> .fail
 |v=> .pure (v,[])
def Zcc:List PV→M (List PV×List Eff)
 | []=> .pure ([],[])
 |v::vs=> .bind (escS v) fun x=> .bind (Zcc vs) fun y=> .pure (x.1::y.1,x.2++y.2)
def escE:PV→M (PV×List Eff)
 | .agg cs=> .bind (Zcc cs) fun y=> .pure (.agg y.1,y.2)
 |v=>escS v
def Q2g:List PV→M (List PV×List Eff)
 | []=> .pure ([],[])
 |v::vs=> .bind (escE v) fun x=> .bind (Q2g vs) fun y=> .pure (x.1::y.1,x.2++y.2)
def esc0:PV→M (PV×List Eff)
 | .bs b esz off len=> .bind (.soft b) fun B=>if B.arr=true then escS (.bs b esz off len)else
   .bind (.ok (B.esz==esz&&off+len≤B.els.length)) fun _=> .bind (Q2g ((B.els.drop off).take len)) fun y=> .pure (.slc y.1,y.2++[.fro b (off+len)])
 |v=>escS v
def escL:List PV→M (List PV×List Eff)
 | []=> .pure ([],[])
 |v::vs=> .bind (esc0 v) fun x=> .bind (escL vs) fun y=> .pure (x.1::y.1,x.2++y.2)
def escC:PV→M (PV×List Eff)
 | .bp b esz i off=> .bind (.soft b) fun B=> .bind (.ok (B.esz==esz)) fun _=> .bind (.ofOpt B.els[i]?) fun e=> .bind (escL (e.cells.drop off)) fun y=> .pure (.rp y.1,.fro b (i+1)::y.2)
 |v=>esc0 v
def Qev:List PV→M (List PV×List Eff)
 | []=> .pure ([],[])
 |v::vs=> .bind (escC v) fun x=> .bind (Qev vs) fun y=> .pure (x.1::y.1,x.2++y.2)
def esc1:PV→M (PV×List Eff)
 | .agg cs=> .bind (escL cs) fun y=> .pure (.agg y.1,y.2)
 | .fn f a c=> .bind (Qev a) fun x=> .bind (Qev c) fun y=> .pure (.fn f x.1 y.1,x.2++y.2)
 |v=>escC v
def Qgh:List PV→M (List PV×List Eff)
 | []=> .pure ([],[])
 |v::vs=> .bind (esc1 v) fun x=> .bind (Qgh vs) fun y=> .pure (x.1::y.1,x.2++y.2)
def lkp {α:Type}:List (Nat×α)→Nat→Option α
 | [],_=>none
 |(k,v)::l,j=>if j=k then some v else lkp l j
def rlk:List (Nat×Nat)→Nat→Option Nat
 | [],_=>none
 |(k,v)::l,j=>if j=v then some k else rlk l j
def Qi2 (κ:List (Nat×Nat)):Bool:=κ.all fun p=>lkp κ p.1==some p.2&&rlk κ p.2==some p.1
def ren0 (θ:List (Nat×Nat)):PV→Option PV
 | .bp b esz i off=>match lkp θ b with
  |some b'=>some (.bp b' esz i off)
  |none=>none
 | .bs b esz off len=>match lkp θ b with
  |some b'=>some (.bs b' esz off len)
  |none=>none
 | .mp b=>match lkp θ b with
  |some b'=>some (.mp b')
  |none=>none
 | .fn f [] []=>some (.fn f [] [])
 | .fn _ _ _| .agg _| .tup _=>none
 |v=>some v
def Qah (θ:List (Nat×Nat)):List PV→Option (List PV)
 | []=>some []
 |v::vs=>match ren0 θ v with
  |none=>none
  |some x=>match Qah θ vs with
   |none=>none
   |some xs=>some (x::xs)
def ren1 (θ:List (Nat×Nat)):PV→Option PV
 | .agg cs=>match Qah θ cs with
  |some xs=>some (.agg xs)
  |none=>none
 | .tup []=>some (.tup [])
 | .fn f a c=>match Qah θ a with
  |none=>none
  |some x=>match Qah θ c with
   |none=>none
   |some y=>some (.fn f x y)
 |v=>ren0 θ v
def Qhn (θ:List (Nat×Nat)):List PV→Option (List PV)
 | []=>some []
 |v::vs=>match ren1 θ v with
  |none=>none
  |some x=>match Qhn θ vs with
   |none=>none
   |some xs=>some (x::xs)
def ren2 (θ:List (Nat×Nat)):PV→Option PV
 | .tup vs=>match Qhn θ vs with
  |some xs=>some (.tup xs)
  |none=>none
 |v=>ren1 θ v
abbrev Tab:=List (Nat×List (Nat×Nat)×List (Nat×Nat))
def Q2h (θ:List (Nat×Nat)):PV→M (PV×List Eff)
 | .bs b esz off len=>match rlk θ b with
  |some b'=> .pure (.bs b' esz off len,[])
  |none=>escC (.bs b esz off len)
 | .bp b esz i off=>match rlk θ b with
  |some b'=> .pure (.bp b' esz i off,[])
  |none=>escC (.bp b esz i off)
 |v=>escC v
def Qo3 (θ:List (Nat×Nat)):List PV→M (List PV×List Eff)
 | []=> .pure ([],[])
 |v::vs=> .bind (Q2h θ v) fun x=> .bind (Qo3 θ vs) fun y=> .pure (x.1::y.1,x.2++y.2)
def Q2i (θ:List (Nat×Nat)):PV→M (PV×List Eff)
 | .bs b esz off len=>match rlk θ b with
  |some b'=> .pure (.bs b' esz off len,[])
  |none=>esc1 (.bs b esz off len)
 | .bp b esz i off=>match rlk θ b with
  |some b'=> .pure (.bp b' esz i off,[])
  |none=>esc1 (.bp b esz i off)
 | .fn f a c=> .bind (Qo3 θ a) fun x=> .bind (Qo3 θ c) fun y=> .pure (.fn f x.1 y.1,x.2++y.2)
 | .nilS=> .pure (.nilS,[])
 |v=>esc1 v
def Zcd (θ:List (Nat×Nat)):List PV→M (List PV×List Eff)
 | []=> .pure ([],[])
 |v::vs=> .bind (Q2i θ v) fun x=> .bind (Zcd θ vs) fun y=> .pure (x.1::y.1,x.2++y.2)
def Box.ext (B:Box):Bool:=B.arr||(B.els.flatMap PV.cells).all Qct
def Qmy (θ:List (Nat×Nat)):PV→Option PV
 | .bp b esz i off=>match rlk θ b with
  |some b'=>some (.bp b' esz i off)
  |none=>none
 |v=>if Qct v=true then some v else none
def Qi3 (θ:List (Nat×Nat)):List PV→Option (List PV)
 | []=>some []
 |v::vs=>match Qmy θ v with
  |none=>none
  |some x=>match Qi3 θ vs with
   |none=>none
   |some xs=>some (x::xs)
def Qc9 (θ:List (Nat×Nat)):PV→Option PV
 | .bs b esz off len=>match rlk θ b with
  |some b'=>some (.bs b' esz off len)
  |none=>none
 | .fn f [] c=>match Qi3 θ c with
  |some xs=>some (.fn f [] xs)
  |none=>none
 |v=>if Qct v=true then some v else none
def Qgi (θ:List (Nat×Nat)):List PV→Option (List PV)
 | []=>some []
 |v::vs=>match Qc9 θ v with
  |none=>none
  |some x=>match Qgi θ vs with
   |none=>none
   |some xs=>some (x::xs)
def Qyr (θ:List (Nat×Nat)):PV→Option PV
 | .agg cs=>match Qgi θ cs with
  |some xs=>some (.agg xs)
  |none=>none
 |v=>Qc9 θ v
def Qmz (θ:List (Nat×Nat)):List PV→Option (List PV)
 | []=>some []
 |v::vs=>match Qyr θ v with
  |none=>none
  |some x=>match Qmz θ vs with
   |none=>none
   |some xs=>some (x::xs)
def Qgj (θ:List (Nat×Nat)) (B:Box):Option Box:=if B.ext=true then some B else if B.arr=true then none else match Qmz θ B.els with
 |some els=>some {B with els:=els}
 |none=>none
theorem Q2j (b e o l:Nat):Qct (.bs b e o l)=false:=rfl
theorem Q2k (b e o l:Nat):Qct (.bp b e o l)=false:=rfl
def Qgk (θF:List (Nat×Nat)):List (Nat×Nat)→M (List (Nat×Box))
 | []=> .pure []
 |(b',b)::θ=> .bind (.hard b) fun Bo=> .bind (.ofOpt Bo) fun B=> .bind (.ok (B.live&&Nat.ble LENT b')) fun _=> .bind (.ofOpt (Qgj θF B)) fun B'=> .bind (Qgk θF θ) fun bs=> .pure ((b',B')::bs)
def Qm0:List (Nat×Nat)→M Unit
 | []=> .pure ()
 |(_,n)::ν=> .bind (.hard n) fun B=> .bind (.ok (B.isNone&&Nat.blt n LENT)) fun _=>Qm0 ν
def Qfn (θ ν:List (Nat×Nat)) (f:FuncId) (args:List PV):M Out:=
 .bind (Zcd θ args) fun y=> .bind (Qgk θ θ) fun bxs=> .bind (Qm0 ν) fun _=>
  .bind (.ok (Qi2 (θ++ν)&&y.2.all fun e=>(rlk (θ++ν) e.id).isNone&& !e.hard)) fun _=> .pure (.callB f y.1 bxs y.2 θ ν)
def flatc:PV→Bool
 | .bool _| .int _ _| .str _| .nilS| .nilF| .nilI| .nilP=>true
 |_=>false
def Qs0:PV→Bool
 | .bs _ _ _ _| .bp _ _ _ _=>true
 |v=>flatc v
def Qs1:PV→Bool
 | .agg cs=>cs.all Qs0
 |v=>Qs0 v
def flatr:PV→Bool
 | .tup vs=>vs.all Qs1
 |v=>Qs1 v
def Qj3 (r:PV) (bxs:List (Nat×Box)):Bool:=flatr r&&bxs.all fun p=>(p.2.els.flatMap PV.cells).all flatc&&p.2.mp.isNone
def Qm1 (κ:List (Nat×Nat)):PV→Option PV
 | .bp b esz i off=>match lkp κ b with
  |some b'=>some (.bp b' esz i off)
  |none=>none
 |v=>if Qct v=true then some v else none
def Qi4 (κ:List (Nat×Nat)):List PV→Option (List PV)
 | []=>some []
 |v::vs=>match Qm1 κ v with
  |none=>none
  |some x=>match Qi4 κ vs with
   |none=>none
   |some xs=>some (x::xs)
def Qdq (κ:List (Nat×Nat)):PV→Option PV
 | .bs b esz off len=>match lkp κ b with
  |some b'=>some (.bs b' esz off len)
  |none=>none
 | .bp b esz i off=>match lkp κ b with
  |some b'=>some (.bp b' esz i off)
  |none=>none
 | .fn f [] c=>match Qi4 κ c with
  |some xs=>some (.fn f [] xs)
  |none=>none
 |v=>if Qct v=true then some v else none
def Qgl (κ:List (Nat×Nat)):List PV→Option (List PV)
 | []=>some []
 |v::vs=>match Qdq κ v with
  |none=>none
  |some x=>match Qgl κ vs with
   |none=>none
   |some xs=>some (x::xs)
def Qys (κ:List (Nat×Nat)):PV→Option PV
 | .agg cs=>match Qgl κ cs with
  |some xs=>some (.agg xs)
  |none=>none
 |v=>Qdq κ v
def Qm2 (κ:List (Nat×Nat)):List PV→Option (List PV)
 | []=>some []
 |v::vs=>match Qys κ v with
  |none=>none
  |some x=>match Qm2 κ vs with
   |none=>none
   |some xs=>some (x::xs)
def Qeq (κ:List (Nat×Nat)) (B:Box):Option Box:=if B.ext=true then some B else if B.arr=true then none else match Qm2 κ B.els with
 |some els=>some {B with els:=els}
 |none=>none
def Qe8 (κ:List (Nat×Nat)):List (Nat×Box)→Option (List Eff)
 | []=>some []
 |(b',B)::bs=>match lkp κ b' with
  |none=>none
  |some b=>match Qeq κ B with
   |none=>none
   |some B2=>if(lkp bs b').isNone=true then(match Qe8 κ bs with|some es=>some (.new b B2::es)|none=>none)else none
def land (θ ν:List (Nat×Nat)) (bxs:List (Nat×Box)) (r:PV):Option (PV×List Eff):=
 if((θ++ν).all fun p=>(lkp bxs p.1).isSome)=true then(match ren2 (θ++ν) r,Qe8 (θ++ν) bxs with
  |some r',some es=>some (r',es)
  |_,_=>none)else none
def Qdf (P:Program) (t:TypeId) (cs:List PV) (off:Nat):Option PV:=
 if tyOk P t then
  if Qa8 P t then(if off+P.cellsOf t≤cs.length then some (.agg ((cs.drop off).take (P.cellsOf t)))else none)
  else cs[off]?
 else none
def Qkn (place:Nat→Option (Nat×Nat)) (cells:List PV):List (Nat×PV)→Option (List PV)
 | []=>some cells
 |(i,v)::rest=>match place i with
  |none=>none
  |some (off,size)=>if v.cells.length=size∧off+size≤cells.length∧v.cells.all PV.okCell=true then Qkn place (cells.take off++v.cells++cells.drop (off+size)) rest else none
def Qae (P:Program) (t:TypeId) (i:Nat):Option (Nat×Nat):=match P.underlying t with
 |some (.struct fs)=>match fs[i]? with
  |some f=>match P.info? f.type with
   |some j=>some (f.offset,j.size)
   |none=>none
  |none=>none
 |some (.array _ e)=>match P.info? e with
  |some j=>some (i*j.size,j.size)
  |none=>none
 |_=>none
def buildable (P:Program) (t:TypeId):Bool:=match P.underlying t with
 |some (.struct fs)=>fs.all fun f=>(P.info? f.type).isSome
 |some (.array _ e)=>(P.info? e).isSome
 |_=>false
def Qa4 (vs:List PV):Bool:=vs.all PV.okCell
def Qko (op:BinOp) (x y:Int):Option Bool:=
 match op with
 | .eql=>some (x==y)
 | .neq=>some (x != y)
 | .lss=>some (decide (x<y))
 | .leq=>some (decide (x≤y))
 | .gtr=>some (decide (x>y))
 | .geq=>some (decide (x≥y))
 |_=>none
def Qdh (op:BinOp) (k:IntKind) (x y:Int):Option PV:=
 match op with
 | .add=>some (.int k (k.wrap (x+y)))
 | .sub=>some (.int k (k.wrap (x-y)))
 | .mul=>some (.int k (k.wrap (x*y)))
 | .quo=>if y=0 then none else some (.int k (k.wrap (x.tdiv y)))
 | .rem=>if y=0 then none else some (.int k (x.tmod y))
 | .and=>some (.int k (k.wrap (BitVec.ofInt k.bits x &&& BitVec.ofInt k.bits y).toNat))
 | .or=>some (.int k (k.wrap (BitVec.ofInt k.bits x ||| BitVec.ofInt k.bits y).toNat))
 | .xor=>some (.int k (k.wrap (BitVec.ofInt k.bits x ^^^ BitVec.ofInt k.bits y).toNat))
 | .andNot=>some (.int k (k.wrap (BitVec.ofInt k.bits x &&& ~~~BitVec.ofInt k.bits y).toNat))
 | .shl| .shr=>none
 |_=>(Qko op x y).map .bool
def Qhf (op:BinOp) (k:IntKind) (x y:Int):Option PV:=
 if y<0 then none else
 match op with
 | .shl=>some (.int k (k.wrap (x*2^(min y.toNat k.bits))))
 | .shr=>some (.int k (x.fdiv (2^(min y.toNat k.bits))))
 |_=>none
def Qo4 (op:BinOp) (x y:ByteArray):Option PV:=
 match op with
 | .add=>if((x.size+y.size:Nat):Int)>IntKind.i64.max then none else some (.str (x++y))
 | .eql=>some (.bool (x.toList==y.toList))
 | .neq=>some (.bool !(x.toList==y.toList))
 | .lss=>some (.bool (Op.bytesLess x.toList y.toList))
 | .leq=>some (.bool (Op.bytesLess x.toList y.toList||x.toList==y.toList))
 | .gtr=>some (.bool !(Op.bytesLess x.toList y.toList||x.toList==y.toList))
 | .geq=>some (.bool !(Op.bytesLess x.toList y.toList))
 |_=>none
def Qb4 (P:Program) (t:TypeId):Option (List Nat):=if P.eqGuardType P.depth t=true then none else match P.underlying t with
 |some (.struct _)=>Qb3 P Op.maxDepth t
 |_=>none
def Qi5 (op:BinOp) (t:TypeId) (P:Program) (b:Bool):Option PV:=match P.underlying t,op with
 |some (.slice _),.eql=>some (.bool b)
 |some (.slice _),.neq=>some (.bool !b)
 |_,_=>none
def tyFn (P:Program) (t:TypeId):Bool:=match P.underlying t with
 |some (.func _ _ _)=>true
 |_=>false
def Zmp (op:BinOp) (b:Bool):Option PV:=match b,op with
 |true,.eql=>some (.bool false)
 |true,.neq=>some (.bool true)
 |_,_=>none
def Qyt (op:BinOp) (t:TypeId) (P:Program):Option PV:=match P.underlying t,op with
 |some (.slice _),.eql=>some .anyB
 |some (.slice _),.neq=>some .anyB
 |_,_=>none
def Qn6 (P:Program) (t:TypeId):Bool:=match P.underlying t with
 |some (.pointer _)=>true
 |_=>false
def Qi6 (op:BinOp) (c b:Bool):Option PV:=match c,op with
 |true,.eql=>some (.bool b)
 |true,.neq=>some (.bool !b)
 |_,_=>none
def Qbp (op:BinOp) (t:TypeId) (P:Program) (x y:PV):Option PV:=
 match x,y with
 | .int k a,.int k' b=>match op with
  | .shl| .shr=>Qhf op k a b
  |_=>if k=k' then Qdh op k a b else none
 | .str a,.str b=>Qo4 op a b
 | .bool a,.bool b=>match P.underlying t,op with
  |some .bool,.eql=>some (.bool (a==b))
  |some .bool,.neq=>some (.bool !(a==b))
  |_,_=>none
 | .agg xs,.agg ys=>match Qb4 P t with
  |some sh=>match op,Qat sh xs ys with
   | .eql,some b=>some (.bool b)
   | .neq,some b=>some (.bool !b)
   |_,_=>none
  |none=>none
 | .nilS,.nilS=>Qi5 op t P true
 | .slc es,.nilS=>match es.isEmpty with
  |true=>Qyt op t P
  |false=>Qi5 op t P false
 | .bs _ _ _ len,.nilS=>match Nat.beq len 0 with
  |true=>none
  |false=>Qi5 op t P false
 | .fn _ _ _,.nilF=>Zmp op (tyFn P t)
 | .bp _ _ _ _,.nilP=>Qi6 op (Qn6 P t) false
 | .rp _,.nilP=>Qi6 op (Qn6 P t) false
 | .nilP,.nilP=>Qi6 op (Qn6 P t) true
 |_,_=>none
def unPV (op:UnOp) (x:PV):Option PV:=
 match op,x with
 | .neg,.int k n=>some (.int k (k.wrap (0-n)))
 | .xor,.int k n=>some (.int k (k.wrap (BitVec.ofInt k.bits (if k.signed then -1 else k.max) ^^^ BitVec.ofInt k.bits n).toNat))
 | .not,.bool b=>some (.bool !b)
 |_,_=>none
def Qm3 (P:Program) (s d:TypeId) (x:PV):Option PV:=
 match P.underlying s,P.underlying d,x with
 |some (.int _),some (.int k),.int _ n=>some (.int k (k.wrap n))
 |_,_,_=>none
def Qdm:List PV→Option (List UInt8)
 | []=>some []
 | .int .u8 n::xs=>match Qdm xs with
  |some bs=>some (UInt8.ofNat n.toNat::bs)
  |none=>none
 |_=>none
def Qwe (P:Program) (s d:TypeId):Bool:=match P.underlying d,P.underlying s with
 |some .string,some (.slice e)=>match P.underlying e with
  |some (.int .u8)=>true
  |_=>false
 |_,_=>false
def Qqs (P:Program) (s d:TypeId) (x:PV):M Out:=match Qm3 P s d x with
 |some v=> .pure (.done v [])
 |none=> .bind (.ok (Qwe P s d)) fun _=> .bind (esc0 x) fun y=>match y.1 with
  | .slc xs=> .bind (.ofOpt (Qdm xs)) fun bs=> .pure (.done (.str ⟨bs.toArray⟩) [])
  |_=> .fail
def Qa3 (P:Program) (t:TypeId):PV→Option PV
 | .str s=>match P.underlying t with|some .string=>some (.int .i64 s.size)|_=>none
 | .nilS=>match P.underlying t with|some (.slice _)=>some (.int .i64 0)|_=>none
 | .slc es=>match P.underlying t with|some (.slice _)=>some (.int .i64 es.length)|_=>none
 | .bs _ _ _ len=>match P.underlying t with|some (.slice _)=>some (.int .i64 len)|_=>none
 |_=>match P.underlying t with|some (.array n _)=>some (.int .i64 n)|_=>none
def Qcv (len:Nat) (lo hi:Option PV):Option (Nat×Nat):=
 match(match hi with|some (.int _ h)=>some h|none=>some (len:Int)|_=>none),(match lo with|some (.int _ l)=>some l|none=>some 0|_=>none)with
 |some h,some l=>if 0≤l∧l≤h∧h≤len then some (l.toNat,h.toNat)else none
 |_,_=>none
def Zce (P:Program) (t:TypeId) (v:PV):M Out:=
 .bind (.ofOpt (Qfl P t)) fun q=> .bind (.ofOpt (Qap P q.2)) fun s=> .bind (escC v) fun y=>match y.1 with
 | .rp cs=> .bind (.ok (Nat.beq s.1 1&&(Nat.beq cs.length q.1&&(Nat.ble cs.length 1000&&Qa4 cs)))) fun _=> .pure (.done (.slc cs) y.2)
 |_=> .fail
def Qcu (P:Program) (t:TypeId) (x:PV) (lo hi:Option PV):M Out:=
 match x with
 | .str s=> .bind (.ok (match P.underlying t with|some .string=>true|_=>false)) fun _=> .bind (.ofOpt (Qcv s.size lo hi)) fun r=> .pure (.done (.str (s.extract r.1 r.2)) [])
 | .nilS=> .bind (.ofOpt (Qap P ((Qbl P t).getD 0))) fun _=> .bind (.ok (Qbl P t).isSome) fun _=> .bind (.ofOpt (Qcv 0 lo hi)) fun _=> .pure (.done .nilS [])
 | .slc es=> .bind (.ofOpt (Qbl P t)) fun e=> .bind (.ofOpt (Qap P e)) fun q=> .bind (.ofOpt (Qcv es.length lo hi)) fun r=>
   .bind (.ok (es.all fun x=>x.cells.length==q.1)) fun _=> .pure (.done (.slc ((es.take r.2).drop r.1)) [])
 | .bs b esz off len=> .bind (.ofOpt (Qbl P t)) fun e=> .bind (.ofOpt (Qap P e)) fun q=> .bind (.ok (q.1==esz)) fun _=> .bind (.ofOpt (Qcv len lo hi)) fun r=>
   match lo with
   |none=> .pure (.done (.bs b esz off r.2) [])
   |some _=> .pure (.done (if r.1<r.2 then .bs b esz (off+r.1) (r.2-r.1)else .slc []) [])
 | .bp b esz i off=>match lo,hi with
   |none,none=>Zce P t (.bp b esz i off)
   |_,_=> .fail
 |_=> .fail
def Qhp (mx:Bool):PV→List PV→Option PV
 |x,[]=>some x
 | .int k a,.int k' b::rest=>if k=k' then Qhp mx (.int k (if mx then(if b>a then b else a)else(if b<a then b else a))) rest else none
 |_,_=>none
def Qgm (P:Program) (id:Nat) (T T2:TypeId) (n:Int):M Out:=
 .bind (.ofOpt (Qbl P T)) fun E=> .bind (.ofOpt (Qap P E)) fun q=> .bind (.ofOpt (Qar P E)) fun z=> .bind (.ofOpt (P.underlying T2)) fun u=> .bind (.hard id) fun b=>
  .bind (.ok (b.isNone&&z.cells.length==q.1&&Qa4 z.cells&&(match u with| .int _=>true|_=>false)&&0<q.1&&decide (0<n)&&decide (n.toNat*q.2≤140737488355328)&&decide (n≤4611686018427387904))) fun _=>
  .pure (.done (.bs id q.1 0 n.toNat) [.new id {els:=[],esz:=q.1,ety:=E,fro:=0,live:=true,arr:=true}])
def Qgn (P:Program) (id:Nat) (T T2:TypeId) (s x:PV):M Out:=
 .bind (.ok (T==T2)) fun _=> .bind (.ofOpt (Qbl P T)) fun E=> .bind (.ofOpt (Qap P E)) fun q=> .bind (.ofOpt (Qar P E)) fun z=> .bind (.ok (z.cells.length==q.1&&0<q.1)) fun _=>
 .bind (.hard id) fun n=> .bind (.ok n.isNone) fun _=> .bind (esc0 x) fun y=>match y.1 with
 | .slc xs=> .bind (.ok (xs.all fun e=>e.cells.length==q.1&&Qa4 e.cells)) fun _=>match s with
  | .nilS=> .bind (.ok (xs.length*q.2≤140737488355328&&xs.length≤maxLen)) fun _=>
    .pure (.done (.bs id q.1 0 xs.length) (y.2++[.new id {els:=xs,esz:=q.1,ety:=E,fro:=0,live:=true,arr:=true}]))
  | .bs b esz off len=> .bind (.hard b) fun Bo=> .bind (.ofOpt Bo) fun B=>
    .bind (.ok ((y.2.all fun e=>e.id != b)&&B.live&&B.arr&&off==0&&len==B.els.length&&esz==q.1&&B.esz==q.1&&B.ety==E&&Qa4 (B.els.flatMap PV.cells)&&(B.els.length+xs.length)*q.2≤140737488355328&&B.els.length+xs.length≤maxLen)) fun _=>
    .pure (.done (.bs id q.1 0 (B.els.length+xs.length)) (y.2++[.kill b,.new id {els:=B.els++xs,esz:=q.1,ety:=E,fro:=B.fro,live:=true,arr:=true}]))
  |_=> .fail
 |_=> .fail
def Qdr (P:Program) (id:Nat) (T T2:TypeId) (s x:PV):M Out:=match s,x with
 | .nilS,.int _ n=>Qgm P id T T2 n
 |s,x=>Qgn P id T T2 s x
def Qi7 (P:Program) (id:Nat) (T n:Nat) (parts:Array (Nat×Operand)) (vs:List PV):M Out:=
 .bind (.ok (parts.toList.map (·.1)==List.range n&&n≤1000)) fun _=> .bind (.ofOpt (Qbl P T)) fun E=> .bind (.ofOpt (Qap P E)) fun q=> .bind (.ofOpt (Qar P E)) fun z=> .bind (.hard id) fun b=>
   .bind (.ok (b.isNone&&z.cells.length==q.1&&vs.length==n&&(vs.all fun e=>e.cells.length==q.1&&Qa4 e.cells)&&0<q.1&&q.1≤1000)) fun _=>
   .pure (.done (.bs id q.1 0 n) [.new id {els:=vs,esz:=q.1,ety:=E,fro:=0,live:=true,arr:=false}])
def appendD (P:Program) (id:Nat) (T T2:TypeId) (s x:PV):M Out:=
 .bind (.ok (T==T2)) fun _=> .bind (.ofOpt (Qbl P T)) fun E=> .bind (.ofOpt (Qap P E)) fun q=> .bind (.ofOpt (Qar P E)) fun z=> .bind (.ok (z.cells.length==q.1&&0<q.1)) fun _=>
 .bind (.hard id) fun n=> .bind (.ok n.isNone) fun _=>match x with
 | .bs b2 esz2 off2 len2=> .bind (.soft b2) fun B2=> .bind (.ok (B2.esz==esz2&&esz2==q.1&&off2+len2≤B2.els.length&&0<len2&&Qa4 (((B2.els.drop off2).take len2).flatMap PV.cells))) fun _=>match s with
  | .nilS=> .bind (.ok (len2*q.2≤140737488355328&&len2≤maxLen)) fun _=>
    .pure (.done (.bs id q.1 0 len2) [.new id {els:=(B2.els.drop off2).take len2,esz:=q.1,ety:=E,fro:=0,live:=true,arr:=false}])
  | .bs b esz off len=> .bind (.hard b) fun Bo=> .bind (.ofOpt Bo) fun B=>
    .bind (.ok (B.live&& !B.arr&&off==0&&len==B.els.length&&0<len&&esz==q.1&&B.esz==q.1&&B.ety==E&&Qa4 (B.els.flatMap PV.cells)&&(len+len2)*q.2≤140737488355328&&len+len2≤maxLen)) fun _=>
    .pure (.done (.bs id q.1 0 (len+len2)) [.kill b,.new id {els:=B.els++(B2.els.drop off2).take len2,esz:=q.1,ety:=E,fro:=B.fro,live:=true,arr:=false}])
  |_=> .fail
 |_=> .fail
def newVar (id:Nat) (T:TypeId) (v:PV):M Out:=
 .bind (.hard id) fun n=> .bind (.ok (n.isNone&&Qa4 v.cells&&0<v.cells.length)) fun _=>
  .pure (.done (.bp id v.cells.length 0 0) [.new id {els:=[v],esz:=v.cells.length,ety:=T,fro:=0,live:=true,arr:=false}])
def Box.over (B:Box) (off:Nat) (xs:List PV):Box:={B with els:=B.els.take off++xs++B.els.drop (off+xs.length)}
def Qi8 (P:Program) (t:TypeId) (d x:PV):M Out:=
 .bind (.ofOpt (Qbl P t)) fun E=> .bind (.ofOpt (Qap P E)) fun q=> .bind (esc0 x) fun y=>match y.1,d with
 | .slc xs,.bs b esz off len=> .bind (.hard b) fun Bo=> .bind (.ofOpt Bo) fun B=>
   .bind (.ok (xs.all fun e=>e.cells.length==q.1&&e.cells.all flatc)) fun _=>
   .bind (.ok (B.live&&B.arr&&B.esz==esz&&q.1==esz&&Nat.ble B.fro off&&Nat.ble (off+min xs.length len) B.els.length)) fun _=>
   .pure (.done (.int .i64 (min xs.length len:Nat)) [.new b (B.over off (xs.take (min xs.length len)))])
 |_,_=> .fail
def Qfo (P:Program) (t:TypeId) (d:PV):M Out:=
 .bind (.ofOpt (Qbl P t)) fun E=> .bind (.ofOpt (Qap P E)) fun q=> .bind (.ofOpt (Qar P E)) fun z=>match d with
 | .bs b esz off len=> .bind (.hard b) fun Bo=> .bind (.ofOpt Bo) fun B=>
   .bind (.ok (z.cells.length==q.1&&z.cells.all flatc)) fun _=>
   .bind (.ok (B.live&&B.arr&&B.esz==esz&&q.1==esz&&Nat.ble B.fro off&&Nat.ble (off+len) B.els.length)) fun _=>
   .pure (.done (.tup []) [.new b (B.over off (List.replicate len z))])
 |_=> .fail
def Qn7 (P:Program) (t:TypeId):Option (TypeId×TypeId):=match P.underlying t with
 |some (.map k e)=>some (k,e)
 |_=>none
def Qwf (P:Program) (K:TypeId):Option (List Nat):=Qb3 P Op.maxDepth K
def PV.isAgg:PV→Bool
 | .agg _=>true
 |_=>false
def Qby (sh:List Nat) (k:PV):List (PV×PV)→Option (Option PV)
 | []=>match Qat sh k.cells k.cells with
  |some _=>some none
  |none=>none
 |(k',v)::es=>if k.isAgg=k'.isAgg then match Qat sh k.cells k'.cells with
  |some true=>some (some v)
  |some false=>Qby sh k es
  |none=>none else none
def Qkp (P:Program) (id:Nat) (T:TypeId):M Out:=
 .bind (.ofOpt (Qn7 P T)) fun _=> .bind (.hard id) fun n=> .bind (.ok n.isNone) fun _=>
  .pure (.done (.mp id) [.new id {els:=[],esz:=1,ety:=T,fro:=0,live:=true,arr:=true,mp:=some []}])
def Qgo (ok:Bool) (z:PV):Option PV→PV
 |some v=>if ok then .tup [v,.bool true]else v
 |none=>if ok then .tup [z,.bool false]else z
def Qkq (P:Program) (T:TypeId) (b:Nat) (k:PV) (ok:Bool):M Out:=
 .bind (.ofOpt (Qn7 P T)) fun q=> .bind (.ofOpt (Qwf P q.1)) fun sh=> .bind (.ok (k.isAgg==Qa8 P q.1)) fun _=> .bind (.ofOpt (Qar P q.2)) fun z=> .bind (.hard b) fun Bo=> .bind (.ofOpt Bo) fun B=> .bind (.ofOpt B.mp) fun es=>
  .bind (.ofOpt (Qby sh k es)) fun r=> .pure (.done (Qgo ok z r) [])
def Box.put (B:Box) (k v:PV):Box:={B with mp:=B.mp.map fun es=>es++[(k,v)]}
def Qhq (P:Program) (T:TypeId) (b:Nat) (k v:PV):M Out:=
 .bind (.ofOpt (Qn7 P T)) fun q=> .bind (.ofOpt (Qwf P q.1)) fun sh=> .bind (.ok (k.isAgg==Qa8 P q.1)) fun _=> .bind (esc1 v) fun y=> .bind (.hard b) fun Bo=> .bind (.ofOpt Bo) fun B=> .bind (.ofOpt B.mp) fun es=>
  .bind (.ok (k.cells.all flatc&&y.2.all fun e=>e.id != b)) fun _=> .bind (.ofOpt (Qby sh k es)) fun r=>match r with
   |none=> .pure (.done (.tup []) (y.2++[.new b (B.put k y.1)]))
   |some _=> .fail
def Qkr (P:Program) (T:TypeId) (b:Nat) (k:PV):M Out:=
 .bind (.ofOpt (Qn7 P T)) fun q=> .bind (.ofOpt (Qwf P q.1)) fun sh=> .bind (.ok (k.isAgg==Qa8 P q.1)) fun _=> .bind (.ofOpt (Qar P q.2)) fun z=> .bind (.hard b) fun Bo=> .bind (.ofOpt Bo) fun B=> .bind (.ofOpt B.mp) fun es=>
  .bind (.ok (k.cells.all flatc)) fun _=> .bind (.ofOpt (Qby sh k es)) fun r=>match r with
   |none=> .pure (.done (.tup [z,.int .i64 (es.length:Int)]) [.new b (B.put k z)])
   |some _=> .fail
def Box.fill (B:Box) (n:Nat) (v:PV):Box:={B with mp:=B.mp.map fun es=>es.modify n fun p=>(p.1,v)}
def Qks (b:Nat) (n:Int) (v:PV):M Out:=
 .bind (esc0 v) fun y=> .bind (.hard b) fun Bo=> .bind (.ofOpt Bo) fun B=> .bind (.ofOpt B.mp) fun es=>
  .bind (.ok (decide (0≤n)&&decide (n<(es.length:Int))&&y.2.all fun e=>e.id != b)) fun _=> .pure (.done (.tup []) (y.2++[.new b (B.fill n.toNat y.1)]))
def Qd7 (P:Program) (t:TypeId) (b esz off len:Nat) (l h m:Int):M Out:=
 .bind (.ofOpt (Qbl P t)) fun e=> .bind (.ofOpt (Qap P e)) fun q=> .bind (.ok (q.1==esz&&(decide (l=0)&&(decide (0<h)&&(decide (h=m)&&decide (h≤(len:Int))))))) fun _=> .pure (.done (.bs b esz off h.toNat) [])
def Qfp (P:Program) (t:TypeId) (es:List PV) (h m:Int):M Out:=
 .bind (.ofOpt (Qbl P t)) fun e=> .bind (.ofOpt (Qap P e)) fun _=> .bind (.ok (decide (h=(es.length:Int))&&decide (m=(es.length:Int)))) fun _=> .pure (.done (.slc es) [])
def Zcf (P:Program) (t:TypeId):Option PV:=match P.underlying t with
 |some (.slice _)=>some (.int .i64 0)
 |_=>none
def Qwg (P:Program) (ts:Array TypeId):M Out:= .bind (.ofOpt ts[0]?) fun t=> .bind (.ofOpt (Zcf P t)) fun v=> .pure (.done v [])
def Qi9 (P:Program) (id:Nat) (o:Op) (vs:List PV):M Out:=
 match o,vs with
 | .makeMap T none,[]=>Qkp P id T
 | .lookup T _ _ ok,[.mp b,k]=>Qkq P T b k ok
 | .mapUpdate T _ _ _,[.mp b,k,v]=>Qhq P T b k v
 | .insert T _ _ _,[.mp b,k,v]=>Qhq P T b k v
 | .mapEntry T _ _,[.mp b,k]=>Qkr P T b k
 | .entryStore _ _ _ _,[.mp b,.int _ n,v]=>Qks b n v
 | .slice T _ (some _) (some _) (some _),[.bs b esz off len,.int _ l,.int _ h,.int _ m]=>Qd7 P T b esz off len l h m
 | .slice T _ none (some _) (some _),[.slc es,.int _ h,.int _ m]=>Qfp P T es h m
 | .call ⟨.builtin .cap,_,ts⟩,[.nilS]=>Qwg P ts
 |_,_=> .fail
def Qa6 (P:Program) (tb:Tab) (id:Nat) (o:Op) (vs:List PV):M Out:=
 match o,vs with
 | .move _,[x]=> .pure (.done x [])
 | .assign _,[x]=> .pure (.done x [])
 | .nilCheck _,[x]=>match x with
  | .bp _ _ _ _| .rp _| .fn _ _ _=> .pure (.done x [])
  |_=> .fail
 | .pick _ _ _,[.bool c,a,b]=> .pure (.done (if c then a else b) [])
 | .alloc T,[]=> .bind (.ofOpt (Qar P T)) fun z=>newVar id T z
 | .box T _,[x]=>newVar id T x
 | .build T parts,vs=> .bind (.ok (buildable P T)) fun _=> .bind (.ofOpt (Qo2 P T)) fun z=> .bind (.ofOpt (Qkn (Qae P T) z.cells ((parts.toList.map (·.1)).zip vs))) fun cs=> .pure (.done (.agg cs) [])
 | .buildSlice T n parts,vs=>match lkp tb id with
  |some _=>Qi7 P id T n parts vs
  |none=> .bind (.ok (parts.toList.map (·.1)==List.range n&&n≤1000)) fun _=> .bind (.ofOpt (Qbl P T)) fun E=> .bind (.ofOpt (Qap P E)) fun q=>
   .bind (.ofOpt (Qar P E)) fun z=> .bind (.hard id) fun b=> .bind (Qgh vs) fun ys=>
   .bind (.ok (b.isNone&&z.cells.length==q.1&&ys.1.length==n&&(ys.1.all fun e=>e.cells.length==q.1&&Qa4 e.cells)&&0<q.1&&q.1≤1000)) fun _=>
   .pure (.done (.bs id q.1 0 n) (ys.2++[.new id {els:=ys.1,esz:=q.1,ety:=E,fro:=0,live:=true,arr:=true}]))
 | .load T _,[.bp b esz i off]=> .bind (.soft b) fun B=> .bind (.ok (B.esz==esz)) fun _=> .bind (.ofOpt B.els[i]?) fun e=> .bind (.ofOpt (Qdf P T e.cells off)) fun v=> .pure (.done v [])
 | .load T _,[.rp cs]=> .bind (.ofOpt (Qdf P T cs 0)) fun v=> .pure (.done v [])
 | .store T _ _,[.bp b esz i off,v]=> .bind (.hard b) fun Bo=> .bind (.ofOpt Bo) fun B=> .bind (.ofOpt B.els[i]?) fun e=>
   .bind (.ok (B.esz==esz&&B.live&&B.fro≤i&&(P.info? T).isSome&&v.cells.length==P.cellsOf T&&Qa4 v.cells&&off+v.cells.length≤e.cells.length)) fun _=>
   if B.arr then .bind (escL v.cells) fun y=> .bind (.ok (Qa4 y.1&&y.2.all fun e=>e.id != b)) fun _=> .pure (.done (.tup []) (y.2++[.wr b i (e.putCells off y.1)]))
   else .pure (.done (.tup []) [.wr b i (e.putCells off v.cells)])
 | .binOp op t _ _ _,[x,y]=> .bind (.ofOpt (Qbp op t P x y)) fun v=> .pure (.done v [])
 | .unOp op _ _,[x]=> .bind (.ofOpt (unPV op x)) fun v=> .pure (.done v [])
 | .convert s d _,[x]=>Qqs P s d x
 | .makeFunc (.func f) first cap,vs=> .pure (.done (.fn f (vs.take first.size) (vs.drop first.size)) [])
 | .makeSlice T _ _,[.int _ l,.int _ c]=> .bind (.ofOpt (Qbl P T)) fun E=> .bind (.ofOpt (Qap P E)) fun q=> .bind (.ofOpt (Qar P E)) fun z=> .bind (.hard id) fun b=>
   .bind (.ok (b.isNone&&z.cells.length==q.1&&Qa4 z.cells&&0<q.1&&decide (0≤l)&&decide (l≤c)&&decide ((q.2:Int)*c≤281474976710656)&&decide (c≤9223372036854775807))) fun _=>
   .pure (.done (.bs id q.1 0 l.toNat) [.new id {els:=List.replicate l.toNat z,esz:=q.1,ety:=E,fro:=0,live:=true,arr:=true}])
 | .slice T _ none none none,[x]=>Qcu P T x none none
 | .slice T _ (some _) none none,[x,l]=>Qcu P T x (some l) none
 | .slice T _ none (some _) none,[x,h]=>Qcu P T x none (some h)
 | .slice T _ (some _) (some _) none,[x,l,h]=>Qcu P T x (some l) (some h)
 | .fieldAddr T _ f,[.bp b esz i off]=> .bind (.ofOpt (Qaq P T f)) fun q=> .pure (.done (.bp b esz i (off+q.1)) [])
 | .fieldAddr T _ f,[.rp cs]=> .bind (.ofOpt (Qaq P T f)) fun q=> .pure (.done (.rp (cs.drop q.1)) [])
 | .field T _ f,[.agg cs]=> .bind (.ofOpt (Qaq P T f)) fun q=> .bind (.ofOpt (Qdf P q.2.1 cs q.1)) fun v=> .pure (.done v [])
 | .indexAddr T _ _,[x,.int _ i]=>match x with
  | .bp b esz k off=> .bind (.ofOpt (Qfl P T)) fun q=> .bind (.ofOpt (Qap P q.2)) fun s=> .bind (.ok (decide (0≤i)&&decide (i<q.1)&&decide (1<q.1))) fun _=> .pure (.done (.bp b esz k (off+i.toNat*s.1)) [])
  | .rp cs=> .bind (.ofOpt (Qfl P T)) fun q=> .bind (.ofOpt (Qap P q.2)) fun s=> .bind (.ok (decide (0≤i)&&decide (i<q.1)&&decide (1<q.1))) fun _=> .pure (.done (.rp (cs.drop (i.toNat*s.1))) [])
  | .bs b esz off len=> .bind (.ofOpt (Qbl P T)) fun E=> .bind (.ofOpt (Qap P E)) fun s=> .bind (.ok (s.1==esz&&decide (0≤i)&&decide (i<len))) fun _=> .pure (.done (.bp b esz (off+i.toNat) 0) [])
  | .slc es=> .bind (.ofOpt (Qbl P T)) fun E=> .bind (.ofOpt (Qap P E)) fun s=> .bind (.ok (decide (0≤i))) fun _=> .bind (.ofOpt es[i.toNat]?) fun e=> .bind (.ok (e.cells.length==s.1)) fun _=> .pure (.done (.rp e.cells) [])
  |_=> .fail
 | .index T _ _,[x,.int _ i]=>match x with
  | .agg cs=> .bind (.ofOpt (Qfl P T)) fun q=> .bind (.ofOpt (Qap P q.2)) fun s=> .bind (.ok (decide (0≤i)&&decide (i<q.1))) fun _=> .bind (.ofOpt (Qdf P q.2 cs (i.toNat*s.1))) fun v=> .pure (.done v [])
  | .str s=> .bind (.ok (match P.underlying T with|some .string=>decide (0≤i)|_=>false)) fun _=> .bind (.ofOpt s[i.toNat]?) fun c=> .pure (.done (.int .u8 c.toNat) [])
  |_=> .fail
 | .extract _ i,[.tup vs]=> .bind (.ofOpt vs[i]?) fun v=> .pure (.done v [])
 | .call ⟨.builtin .len,_,ts⟩,[x]=> .bind (.ofOpt ts[0]?) fun t=> .bind (.ofOpt (Qa3 P t x)) fun v=> .pure (.done v [])
 | .call ⟨.builtin .append,_,ts⟩,[s,x]=> .bind (.ofOpt ts[0]?) fun t=> .bind (.ofOpt ts[1]?) fun t2=> .bind (.ok (ts.size==2)) fun _=>match lkp tb id with
  |some _=>appendD P id t t2 s x
  |none=>Qdr P id t t2 s x
 | .call ⟨.builtin .max,_,_⟩,x::xs=> .bind (.ofOpt (Qhp true x xs)) fun v=> .pure (.done v [])
 | .call ⟨.builtin .min,_,_⟩,x::xs=> .bind (.ofOpt (Qhp false x xs)) fun v=> .pure (.done v [])
 | .call ⟨.value _,_,_⟩,.fn f first cap::args=>match lkp tb id with
  |none=> .bind (Qev first) fun x=> .bind (Qgh args) fun y=> .bind (Qev cap) fun z=> .pure (.call f (x.1++y.1++z.1) (x.2++y.2++z.2))
  |some (θ,ν)=>Qfn θ ν f (first++args++cap)
 | .call ⟨.value _,_,_⟩,.yld n stop::args=> .bind (.hard YID) fun _=> .bind (Qgh args) fun y=> .pure (.yield n stop y.1 y.2)
 | .call ⟨.builtin .copy,_,ts⟩,[d,x]=> .bind (.ofOpt ts[0]?) fun t=>Qi8 P t d x
 | .call ⟨.builtin .clear,_,ts⟩,[d]=> .bind (.ofOpt ts[0]?) fun t=>Qfo P t d
 |o,vs=>Qi9 P id o vs
def St.ev (st:St):Operand→Option PV
 | .tmp t=>st.var t
 | .const v=>Qfm v
 | .func f=>some (.fn f [] [])
 | .global _=>none
def St.evs (st:St):List Operand→Option (List PV)
 | []=>some []
 |x::xs=>match st.ev x with
  |none=>none
  |some v=>match st.evs xs with
   |none=>none
   |some vs=>some (v::vs)
end Go.Vl
