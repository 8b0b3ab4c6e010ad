/-
  UMp, UH (merged for the claim).
-/
import Derived.Test.YtnohfmdlaajpbaaGreatUG
set_option linter.unusedSimpArgs false
set_option linter.unusedVariables false
namespace Go.Vl
open Go.RowKit
section
variable {P:Program} {w:World} {im:Im} {ρ:Rho}
theorem Qhx: ∀(d n:Nat) (t:TypeId) (sh:List Nat) (us:List Value) (x:Value) (e:Bool),d≤n→Qb3 P d t=some sh→us.length=sh.length→
  ((match P.underlying t with|some (.struct _)|some (.array _ _)=>true|_=>false)=true→x= .agg us.toArray)→
  ((match P.underlying t with|some (.struct _)|some (.array _ _)=>true|_=>false)=false→us=[x])→(∀v∈us,v.oneCell'=true)→(Instr.checkKey e n t x).run P w= .ok () w
 |0,_,_,_,_,_,_,_,h,_,_,_,_=>by cases h
 |d+1,0,_,_,_,_,_,hn,_,_,_,_,_=>by omega
 |d+1,n+1,t,sh,us,x,e,hn,hsh,hl,hagg,hone,ho1=>by
  unfold Qb3 at hsh;have plain: ∀D:TypeDesc,P.underlying t=some D→(match D with| .interface _| .array _ _| .struct _=>False|_=>True)→(Instr.checkKey e (n+1) t x).run P w= .ok () w:=by
   intro D hD hp;unfold Instr.checkKey;simp only [Sem.run_bind,run_underlying hD,Result.andThen_ok];cases D<;>first|exact hp.elim|(cases x<;>rfl)
  split at hsh
  ·rename_i hu;exact plain _ hu trivial
  ·rename_i k hu;exact plain _ hu trivial
  ·rename_i hu;exact plain _ hu trivial
  ·rename_i fs hu;split at hsh
   ·cases hsh
   rename_i hst;have hx:=hagg (by rw [hu]);subst hx;unfold Instr.checkKey;simp only [Sem.run_bind,run_underlying hu,Result.andThen_ok];have key: ∀(l:List Field) (off:Nat) (sh:List Nat),Qfr P (Qb3 P d) l off=some sh→off+sh.length≤us.length→
     (forIn l () fun(f:Field) (_:Unit)=>
      (if f.name≠ "_" then(do Instr.checkKey e n f.type (←part f.type us.toArray f.offset);pure (ForInStep.yield ()))else pure (ForInStep.yield ()):Sem (ForInStep Unit))).run P w= .ok () w:=by
    intro l
    induction l with
    |nil=>intro off sh _ _;simp
    |cons f fs ih=>
     intro off sh h1 hlen;unfold Qfr at h1;split at h1
     ·cases h1
     rename_i hname;split at h1
     case isFalse=>cases h1
     rename_i hoff;subst hoff;split at h1
     ·cases h1
     rename_i sh1 hsh1;split at h1
     case isFalse=>cases h1
     rename_i hcell;obtain⟨hcell,hinfo,hne⟩:=hcell;split at h1
     case h_2=>cases h1
     rename_i sh2 hsh2;cases h1;rw [List.length_append]at hlen;obtain⟨i,hi⟩:=Option.isSome_iff_exists.1 hinfo;have hcs:i.size=sh1.length:=by rw [←hcell];simp [Program.cellsOf,hi]
     have hund:(P.underlying f.type).isSome=true:=by
      cases d with
      |zero=>cases hsh1
      |succ d=>
       unfold Qb3 at hsh1;split at hsh1<;>first|(rename_i e;rw [e];rfl)|cases hsh1
     have hag1:(match P.underlying f.type with|some (.struct _)|some (.array _ _)=>true|_=>false)=false→i.size=1:=by
      intro hh;cases d with
      |zero=>cases hsh1
      |succ d=>
       unfold Qb3 at hsh1;split at hsh1
       ·cases hsh1;exact hcs
       ·cases hsh1;exact hcs
       ·cases hsh1;exact hcs
       ·rename_i e;rw [e]at hh;cases hh
       ·cases hsh1
     obtain⟨v,p1,p2,p3⟩:=Qkb (w:=w) hi hund (show f.offset+i.size≤us.length by omega) hag1;have hck:=Qhx d n f.type sh1 ((us.drop f.offset).take i.size) v e (by omega) hsh1 (by simp;omega) p2 p3 (fun u hu=>ho1 u (List.mem_of_mem_drop (List.mem_of_mem_take hu)));have hnx:=ih (f.offset+sh1.length) sh2 hsh2 (by omega);simp only [List.forIn_cons,Sem.run_bind,ne_eq,hname,not_false_eq_true,if_true,p1,Result.andThen_ok,hck,Sem.run_pure];exact hnx
   have:=key fs.toList 0 sh hsh (by omega);simp at this ⊢;rw [this];rfl
  ·cases hsh
def Found (w:World) (im:Im):Option PV→Option (Nat×Value)→Prop
 |none,none=>True
 |some v,some (_,u)=>Rep w im v u
 |_,_=>False
theorem Qfc: ∀{sh:List Nat} {xs ys:List PV} {b:Bool},Qat sh xs ys=some b→Qa4 xs=true∧Qa4 ys=true
 | [],xs,ys,b,h=>by
  unfold Qat at h;split at h<;>first|exact⟨rfl,rfl⟩|(rename_i e;cases e;done)|cases h
 |n::sh,xs,ys,b,h=>by
  unfold Qat at h;split at h
  ·rename_i e;cases e
  ·rename_i e;cases e;obtain⟨r,hr,_⟩:=Option.map_eq_some_iff.1 h;have:=Qfc hr
   simp_all [Qa4,PV.okCell]
  ·rename_i e;cases e;split at h
   ·obtain⟨r,hr,_⟩:=Option.map_eq_some_iff.1 h;have:=Qfc hr
    simp_all [Qa4,PV.okCell]
   ·cases h
  ·rename_i e;cases e;obtain⟨r,hr,_⟩:=Option.map_eq_some_iff.1 h;have:=Qfc hr
   simp_all [Qa4,PV.okCell]
  ·cases h
theorem Qno {k:PV} {kv:Value} (h:LR w im ρ k kv) (ho:Qa4 k.cells=true) {g:Bool} (hg:k.isAgg=g):
  (g=true→kv= .agg kv.cells.toList.toArray)∧(g=false→kv.cells.toList=[kv]):=by
 subst hg;have one:k.cells=[k]→kv.cells.toList=[kv]:=by
  intro hk;rw [hk]at ho;have hu:=h.oneCell (by simpa [Qa4]using ho);cases kv<;>first|rfl|simp [Value.oneCell']at hu
 cases k with
 |agg cs=>obtain⟨vs,rfl,hr⟩:=h.agg_inv;exact⟨fun _=>(by simp [Value.cells]),fun h=>(by cases h)⟩
 |_=>exact⟨fun h=>(by cases h),fun _=>one rfl⟩
theorem Qt0 {K:TypeId} {sh:List Nat} {k k':PV} {kv kv':Value} {b:Bool} (hsh:Qb3 P Op.maxDepth K=some sh) (hk:LR w im ρ k kv) (hk':LR w im ρ k' kv')
  (ha:k.isAgg=Qa8 P K) (ha':k'.isAgg=Qa8 P K) (he:Qat sh k.cells k'.cells=some b):(Op.equal K kv kv').run P w= .ok b w:=by
 obtain⟨o1,o2⟩:=Qfc he;obtain⟨p1,p2⟩:=Qno hk o1 ha;obtain⟨q1,q2⟩:=Qno hk' o2 ha';exact Qfs Op.maxDepth K sh _ _ _ _ _ _ b hsh he (hk.cells o1) (hk'.cells o2) (fun h=>⟨p1 h,q1 h⟩) (fun h=>⟨p2 h,q2 h⟩)
theorem Qgv {K:TypeId} {sh:List Nat} {k:PV} {ys:List PV} {kv:Value} {b:Bool} (e:Bool) (hsh:Qb3 P Op.maxDepth K=some sh) (hk:LR w im ρ k kv) (ha:k.isAgg=Qa8 P K) (he:Qat sh k.cells ys=some b):
  (Instr.checkKey e 10000 K kv).run P w= .ok () w:=by
 obtain⟨o1,_⟩:=Qfc he;obtain⟨p1,p2⟩:=Qno hk o1 ha;have hc:=hk.cells o1;exact Qhx Op.maxDepth 10000 K sh _ _ e (Nat.le_refl _) hsh (by rw [←hc.length];exact(Qb1 he).1) p1 p2 (hc.oneCells o1)
theorem Zvx {n:Nat} {k k':PV} {b:Bool} (h:Qat [n] [k] [k']=some b):(n=0∧ ∃p q,k= .bool p∧k'= .bool q∧b=(p==q))∨(n=1∧ ∃K p q,k= .int K p∧k'= .int K q∧b=(p==q))∨(n=2∧ ∃p q,k= .str p∧k'= .str q∧b=(p==q)):=by
 unfold Qat at h;split at h
 ·rename_i e _ _;cases e
 ·rename_i e1 e2 e3;cases e1;cases e2;cases e3;simp [Qat]at h;subst h;exact .inl ⟨rfl,_,_,rfl,rfl,rfl⟩
 ·rename_i e1 e2 e3;cases e1;cases e2;cases e3;split at h
  ·rename_i hq;subst hq;simp [Qat]at h;subst h;exact .inr (.inl ⟨rfl,_,_,_,rfl,rfl,rfl⟩)
  ·cases h
 ·rename_i e1 e2 e3;cases e1;cases e2;cases e3;simp [Qat]at h;subst h;exact .inr (.inr ⟨rfl,_,_,rfl,rfl,rfl⟩)
 ·cases h
theorem Qpj {K:TypeId} {D:TypeDesc} {sh:List Nat} {k k':PV} {kv kv':Value} {b b':Bool} (hD:P.underlying K=some D) (hsh:Qb3 P Op.maxDepth K=some sh) (hk:LR w im ρ k kv) (hk':LR w im ρ k' kv')
  (ha:k.isAgg=Qa8 P K) (ha':k'.isAgg=Qa8 P K) (he:Qat sh k.cells k'.cells=some b) (hs:Instr.sameNow D kv kv'=some b'):b'=b:=by
 have hsh':Qb3 P (9999+1) K=some sh:=hsh;unfold Qb3 at hsh';rw [hD]at hsh';have cell1: ∀{v:PV},v.isAgg=false→v.cells=[v]:=fun{v} h=>by cases v<;>first|rfl|cases h
 have tA:Qa8 P K=match some D with|some (.struct _)|some (.array _ _)=>true|_=>false:=by unfold Qa8;rw [hD];rfl
 have fin: ∀n,sh=[n]→Qa8 P K=false→b'=b:=by
  intro n hn ht;subst hn;rw [cell1 (ha.trans ht),cell1 (ha'.trans ht)]at he;rcases Zvx he with⟨_,p,q,rfl,rfl,rfl⟩|⟨_,q',p,q,rfl,rfl,rfl⟩|⟨_,p,q,rfl,rfl,rfl⟩
  ·rw [hk.bool_inv,hk'.bool_inv]at hs;cases D<;>simp [Instr.sameNow]at hs;exact hs.symm
  ·rw [hk.int_inv,hk'.int_inv]at hs;cases D<;>simp [Instr.sameNow]at hs;exact hs.symm
  ·rw [hk.str_inv,hk'.str_inv]at hs;cases D<;>simp [Instr.sameNow]at hs;exact hs.symm
 cases D with
 |bool=>cases hsh';exact fin 0 rfl tA
 |int q=>cases hsh';exact fin 1 rfl tA
 |string=>cases hsh';exact fin 2 rfl tA
 |_=>simp [Instr.sameNow]at hs
theorem Qy7 {K:TypeId} {D:TypeDesc} {sh:List Nat} {k:PV} {kv:Value} (hD:P.underlying K=some D) (hsh:Qb3 P Op.maxDepth K=some sh) (hk:LR w im ρ k kv) (ha:k.isAgg=Qa8 P K):
  ∀(es:List (PV×PV)) (ms:List MapEntry) (i:Nat) (r:Option PV),RepL w im (es.map (·.1)) (ms.map (·.key))→RepL w im (es.map (·.2)) (ms.map (·.val))→Qby sh k es=some r→
   (∃q,(Instr.findAsking K kv ms i).run P w= .ok q w∧Found w im r q)∧ ∀q,Instr.findNow D kv ms i=some q→Found w im r q
 | [],ms,i,r,h1,_,h3=>by
  have:ms=[]:=by cases ms with|nil=>rfl|cons m ms=>cases h1
  subst this;have:r=none:=by
   unfold Qby at h3;split at h3<;>cases h3;rfl
  subst this;exact⟨⟨none,rfl,trivial⟩,fun q hq=>by simp [Instr.findNow]at hq;subst hq;trivial⟩
 |(k',v)::es,ms,i,r,h1,h2,h3=>by
  cases ms with
  |nil=>cases h1
  |cons m ms=>
   cases h1 with|cons _ _ _ _ r1 t1=>
   cases h2 with|cons _ _ _ _ r2 t2=>
   have r1':LR w im ρ k' m.key:= .ext _ _ r1;unfold Qby at h3;split at h3
   case isFalse=>cases h3
   rename_i hka;have ha':k'.isAgg=Qa8 P K:=hka.symm.trans ha;split at h3
   ·rename_i he;cases h3;have hq:=Qt0 (P:=P) hsh hk r1' ha ha' he;refine⟨⟨some (i,m.val),by simp [Instr.findAsking,hq],r2⟩,fun q hq'=> ?_⟩;unfold Instr.findNow at hq';split at hq'
    ·cases hq';exact r2
    ·rename_i hs;have:=Qpj hD hsh hk r1' ha ha' he hs;cases this
    ·cases hq'
   ·rename_i he;have hq:=Qt0 (P:=P) hsh hk r1' ha ha' he;obtain⟨⟨q,g1,g2⟩,g3⟩:=Qy7 hD hsh hk ha es ms (i+1) r t1 t2 h3;refine⟨⟨q,by simp [Instr.findAsking,hq,g1],g2⟩,fun q hq'=> ?_⟩;unfold Instr.findNow at hq';split at hq'
    ·rename_i hs;have:=Qpj hD hsh hk r1' ha ha' he hs;cases this
    ·exact g3 q hq'
    ·cases hq'
   ·cases h3
theorem Qh2 {K:TypeId} {D:TypeDesc} {sh:List Nat} {k:PV} {kv:Value} (hD:P.underlying K=some D) (hsh:Qb3 P Op.maxDepth K=some sh) (hk:LR w im ρ k kv) (ha:k.isAgg=Qa8 P K)
  {es:List (PV×PV)} {ms:List MapEntry} {r:Option PV} (h1:RepL w im (es.map (·.1)) (ms.map (·.key))) (h2:RepL w im (es.map (·.2)) (ms.map (·.val))) (h3:Qby sh k es=some r):
  ∃q,(Instr.findKey K kv ms).run P w= .ok q w∧Found w im r q:=by
 obtain⟨⟨q,g1,g2⟩,g3⟩:=Qy7 hD hsh hk ha es ms 0 r h1 h2 h3;unfold Instr.findKey;simp only [Sem.run_bind,run_underlying hD,Result.andThen_ok];cases hn:Instr.findNow D kv ms 0 with
 |none=>exact⟨q,g1,g2⟩
 |some q'=>exact⟨q',rfl,g3 q' hn⟩
theorem Qgw {sh:List Nat} {k:PV}: ∀{es:List (PV×PV)} {r:Option PV},Qby sh k es=some r→ ∃ys b,Qat sh k.cells ys=some b
 | [],r,h=>by
  unfold Qby at h;split at h
  ·rename_i b e;exact⟨_,b,e⟩
  ·cases h
 |(k',v)::es,r,h=>by
  unfold Qby at h;split at h
  case isFalse=>cases h
  split at h
  ·rename_i e;exact⟨_,_,e⟩
  ·rename_i e;exact⟨_,_,e⟩
  ·cases h
theorem Qh3 {K:TypeId} {sh:List Nat} (h:Qb3 P Op.maxDepth K=some sh): ∃D,P.underlying K=some D:=by
 have h':Qb3 P (9999+1) K=some sh:=h;unfold Qb3 at h';split at h'<;>first|exact⟨_,by assumption⟩|cases h'
theorem Qnp {T K E:TypeId} (h:Qn7 P T=some (K,E)):P.underlying T=some (.map K E):=by
 unfold Qn7 at h;split at h
 ·rename_i e;cases h;exact e
 ·cases h
end
section
variable {C:Ctx} {st:St} {a:Act} {w:World} {ρ:Rho} {im:Im} {o:Oper}
theorem LR.mp_inv {b:Nat} {u:Value} (h:LR w im ρ (.mp b) u): ∃g,ρ b=some (some g)∧u= .map (some g):=by
 cases h with
 |ext _ _ h=>cases h
 |mp _ g h=>exact⟨g,h,rfl⟩
theorem Q2z (e:Eff) (st:St) {b:Nat} (h:e.id≠b):(e.on st).box b=st.box b:=by
 cases e with
 |yld a=>rfl
 |new b' B=>simp only [Eff.on,St.setBox];exact Qal _ _ _ _ (fun x=>h x.symm)
 |_=>simp only [Eff.on];split<;>first|rfl|(simp only [St.setBox];exact Qal _ _ _ _ (fun x=>h x.symm))
theorem Qfw: ∀(es:List Eff) (st:St) {b:Nat},(∀e∈es,e.id≠b)→(Qan es st).box b=st.box b
 | [],_,_,_=>rfl
 |e::es,st,b,h=>by
  rw [Qay,Qfw es _ fun x hx=>h x (List.mem_cons_of_mem _ hx)];exact Q2z e st (h e List.mem_cons_self)
theorem Rel'.mapAt (h:Rel' C st a w ρ im) {b g:Nat} {B:Box} {es:List (PV×PV)} (hg:ρ b=some (some g)) (hB:st.box b=some B) (he:B.mp=some es):Qmx w im B g:=by
 obtain⟨_,_,_,_,⟨hmn,_⟩|hm⟩:=h.box b _ B hg hB
 ·rw [hmn]at he;cases he
 ·exact hm
theorem Qwt {id:Nat} (hidL:id<LENT) {T:TypeId} {r:PV} {es:List Eff} {l:Acc} (ho:o.op= .makeMap T none) (h:Rel' C st a w ρ im) (he:Qkp C.P id T st.box=some (.done r es,l)):
  Does C (Qan es st) a w (execOp a.eval o) r:=by
 obtain⟨_,_,_,_,e2,_⟩:=M.bind_some he;obtain⟨n,_,_,e3,e4,_⟩:=M.bind_some e2;obtain⟨rfl,_⟩:=M.hard_some e3;obtain⟨_,_,_,e5,e6,_⟩:=M.bind_some e4;obtain⟨hc,_⟩:=M.ok_some e5;obtain⟨e7,_⟩:=M.pure_some e6;cases e7;have hid:st.box id=none:=by simpa using hc
 have hbl:Below w.heap.size w (w.alloc (.map #[] 0)):=(Below.refl _ _).alloc (Nat.le_refl _) _;have hg:(w.alloc (.map #[] 0)).heap[w.heap.size]? =some (Obj.map #[] 0):=heap_alloc_new w _;have hrun:(Instr.makeMap T none).run C.P w= .ok (.map (some w.heap.size)) (w.alloc (.map #[] 0)):=rfl;generalize w.alloc (.map #[] 0)=w' at*;have h':=h.below_call hbl;have hk:Keeps im w w':=Keeps.of_below hbl h.imc;obtain⟨h3,h4⟩:=h.addBox (im:=im) ⟨.of_below hbl,hk,fun _ x=> .inl x,fun _ _ x=>x,fun _ _ x=> .inl x⟩ h' hidL hid {els:=[],esz:=1,ety:=T,fro:=0,live:=true,arr:=true,mp:=some []} (some w.heap.size)
  (fun g e=> .inr (by cases e;exact Nat.le_refl _)) ⟨.inl h.root.below.size,Nat.le_refl _,Nat.one_pos,by simp,.inr ⟨rfl,rfl,rfl,[], #[],0,rfl,hg,.nil,.nil,rfl,by simp⟩⟩
  (fun b' g B' e1 e2 _=>by cases e1;have:=(h.block_lt e2).1;omega)
 refine⟨.map (some w.heap.size),w',_,im,.inl (by simp [execOp,ho,hrun]),by simpa [Qan,Eff.on]using h3,?_⟩;exact .mp id _ (Qao _ _ _)
theorem Qy8 {T:TypeId} {z:PV} (h:Qar C.P T=some z): ∃u,(zeroValue T).run C.P w= .ok u w∧Rep w im z u:=by
 obtain⟨i,zv,h1,h2,h3⟩:=Qcr h;exact⟨zv,Qe3 h1 h2,Qco h3⟩
theorem Qwu {T:TypeId} {x y:Operand} {ok:Bool} {b:Nat} {k r:PV} {es:List Eff} {l:Acc} (ho:o.op= .lookup T x y ok) (h:Rel' C st a w ρ im) (hx:LR w im ρ (.mp b) (a.eval x)) (hy:LR w im ρ k (a.eval y))
  (he:Qkq C.P T b k ok st.box=some (.done r es,l)):Does C (Qan es st) a w (execOp a.eval o) r:=by
 obtain⟨⟨K,E⟩,_,_,e1,e2,_⟩:=M.bind_some he;obtain⟨c1,_⟩:=M.ofOpt_some e1;obtain⟨sh,_,_,e3,e4,_⟩:=M.bind_some e2;obtain⟨c2,_⟩:=M.ofOpt_some e3;obtain⟨_,_,_,e5,e6,_⟩:=M.bind_some e4;obtain⟨c3,_⟩:=M.ok_some e5;obtain⟨z,_,_,e7,e8,_⟩:=M.bind_some e6;obtain⟨c4,_⟩:=M.ofOpt_some e7;obtain⟨Bo,_,_,e9,e10,_⟩:=M.bind_some e8;obtain⟨rfl,_⟩:=M.hard_some e9;obtain⟨B,_,_,e11,e12,_⟩:=M.bind_some e10;obtain⟨hB,_⟩:=M.ofOpt_some e11;obtain⟨ms0,_,_,e13,e14,_⟩:=M.bind_some e12;obtain⟨c5,_⟩:=M.ofOpt_some e13;obtain⟨f,_,_,e15,e16,_⟩:=M.bind_some e14;obtain⟨c6,_⟩:=M.ofOpt_some e15;obtain⟨e17,_⟩:=M.pure_some e16;cases e17;have c3:k.isAgg=Qa8 C.P K:=by simpa using c3
 obtain⟨g,hg,ex⟩:=hx.mp_inv;obtain⟨_,_,_,es',ms,clock,m1,m2,m3,m4,_⟩:=h.mapAt hg hB c5;rw [c5]at m1;cases m1;obtain⟨D,hD⟩:=Qh3 c2;obtain⟨ys,bb,hys⟩:=Qgw c6;have hck:=Qgv (P:=C.P) ms.isEmpty c2 hy c3 hys;obtain⟨q,q1,q2⟩:=Qh2 hD c2 hy c3 m3 m4 c6;have hT:=Qnp c1;have hget:(getObj g).run C.P w= .ok (.map ms clock) w:=by simp [getObj,Sem.run,m2]
 obtain⟨zv,z1,z2⟩:=Qy8 (w:=w) (im:=im) c4;have fin: ∀(v:PV) (u:Value) (bo:Bool),Rep w im v u→f=(if bo then some v else none)→(bo=false→v=z)→(Instr.lookup T (a.eval x) (a.eval y) ok).run C.P w= .ok (if ok then .tuple #[u,.bool bo]else u) w→
   Does C (Qan [] st) a w (execOp a.eval o) (Qgo ok z f):=by
  intro v u bo hv hf hz hr;refine⟨if ok then .tuple #[u,.bool bo]else u,w,ρ,im,.inl (by simp [execOp,ho,hr]),h,?_⟩;have key:Qgo ok z f=if ok then .tup [v,.bool bo]else v:=by
   subst hf;cases bo
   ·rw [hz rfl];rfl
   ·rfl
  rw [key];cases ok
  ·exact .ext _ _ hv
  ·exact .ext _ _ (.tup _ _ (.cons _ _ _ _ hv (.cons _ _ _ _ (.bool _) .nil)))
 cases f with
 |none=>
  cases q with
  |some q=>exact q2.elim
  |none=>
   refine fin z zv false z2 rfl (fun _=>rfl) ?_;rw [ex];simp [Instr.lookup,run_underlying hT,hget,hck,q1,z1]
 |some v=>
  cases q with
  |none=>exact q2.elim
  |some q=>
   obtain⟨j,u⟩:=q;refine fin v u true q2 rfl (fun e=>by cases e) ?_;rw [ex];simp [Instr.lookup,run_underlying hT,hget,hck,q1]
theorem Rel'.mapTurn (h:Rel' C st a w ρ im) {b g:Nat} {B:Box} {es es2:List (PV×PV)} (hg:ρ b=some (some g)) (hB:st.box b=some B) (he:B.mp=some es) {ms ms2:Array MapEntry} {clock clock2:Nat}
  (hm:w.heap[g]? =some (Obj.map ms clock)) (hk:RepL w im (es2.map (·.1)) (ms2.toList.map (·.key))) (hv:RepL w im (es2.map (·.2)) (ms2.toList.map (·.val))) (hcl:clock2=ms2.size) (hborn: ∀(i:Nat) (e:MapEntry),ms2.toList[i]? =some e→e.born=i):
  Rel' C (st.setBox b {B with mp:=some es2}) a {w with heap:=w.heap.setIfInBounds g (.map ms2 clock2)} ρ im:=by
 obtain⟨n1,n2,n3,_⟩:=h.mapAt hg hB he;have hlt:g<w.heap.size:=(Array.getElem?_eq_some_iff.1 hm).1;generalize hw':({w with heap:=w.heap.setIfInBounds g (.map ms2 clock2)}:World)=w';have hother: ∀g',g'≠g→w'.heap[g']? =w.heap[g']? :=fun g' e=>by
  have: ¬g=g':=fun x=>e x.symm;rw [←hw'];simp [Array.getElem?_setIfInBounds,this]
 have hnew:w'.heap[g]? =some (.map ms2 clock2):=by rw [←hw'];simp [hlt]
 have hsz:w'.heap.size=w.heap.size:=by rw [←hw'];simp
 have hcell: ∀g' j,im g' j→w'.cell? ⟨g',j,none⟩=w.cell? ⟨g',j,none⟩:=by
  intro g' j hi;by_cases e:g'=g
  ·subst e;obtain⟨u,hu⟩:=h.imc g' j hi;exfalso;simp [World.cell?,hm]at hu
  ·exact World.cell?_of_block (w:=w) (a:=⟨g',j,none⟩) (hother g' e)
 have hkp:Keeps im w w':=by
  refine⟨hcell,?_,?_⟩
  ·intro g' cur e hc;refine⟨cur,?_,rfl⟩;rw [hother g' (by rintro rfl;rw [hm]at hc;cases hc)];exact hc
  ·intro g' o' hc hn;rw [hother g' (by rintro rfl;rw [hm]at hc;cases hc;cases hn)];exact hc
 have hlent:Lent (Own ρ) w.heap.size w w':=⟨by rw [←hw'],by rw [←hw'],by rw [←hw'],by rw [hsz];exact Nat.le_refl _,fun k' _ hx=>hother k' fun e=>hx (e▸⟨b,hg⟩)⟩;refine⟨h.step ⟨hlent,hkp,fun _ x=> .inl x,fun _ _ x=>x,fun _ _ x=> .inl x⟩ h.root.rho0,h.nt,Qhe hkp h.dfr,?_,?_,?_,?_,?_⟩
 ·intro g' j x;rw [hkp.cell g' j x];exact h.imc g' j x
 ·exact fun t v hv=>(h.var t v hv).mono hkp (fun _ _ x=>x) (fun _ _ x=>x)
 ·intro b';by_cases x:b'=b
  ·subst x;simp [St.setBox,Qao,hg]
  ·simp [St.setBox,Qal _ _ _ _ x,h.rho b']
 ·intro b' x B' hx hB';by_cases eb:b'=b
  ·subst eb;simp only [St.setBox,Qao,Option.some.injEq]at hB';rw [hg]at hx;cases hx;subst hB';obtain⟨k1,k2,k3,k4,_⟩:=h.box b' _ B hg hB;exact⟨k1,k2,k3,k4,.inr ⟨n1,n2,n3,es2,ms2,clock2,rfl,hnew,hk.mono hcell (fun _ _ x=>x),hv.mono hcell (fun _ _ x=>x),hcl,hborn⟩⟩
  ·simp only [St.setBox,Qal _ _ _ _ eb]at hB';refine(h.box b' x B' hx hB').mono hkp (fun _ _ x=>x) (fun _ _ _ _ x=>x) (fun _ _ x=>x) ?_;intro hl' g' e';subst e';exact hother g' fun e=>eb (h.inj b' b g' B' B hx (by rw [e];exact hg) hB' hB hl' n3)
 ·intro b1 b2 g1 B1 B2 p1 p2 e1 e2 l1 l2;have f: ∀b0 B0,(st.setBox b {B with mp:=some es2}).box b0=some B0→B0.live=true→ ∃B3,st.box b0=some B3∧B3.live=true:=by
   intro b0 B0 e0 l0;by_cases x:b0=b
   ·subst x;exact⟨B,hB,n3⟩
   ·simp only [St.setBox,Qal _ _ _ _ x]at e0;exact⟨B0,e0,l0⟩
  obtain⟨B3,e3,l3⟩:=f b1 B1 e1 l1;obtain⟨B4,e4,l4⟩:=f b2 B2 e2 l2;exact h.inj b1 b2 g1 B3 B4 p1 p2 e3 e4 l3 l4
theorem Rel'.mapAdd (h:Rel' C st a w ρ im) {b g:Nat} {B:Box} {es:List (PV×PV)} (hg:ρ b=some (some g)) (hB:st.box b=some B) (he:B.mp=some es) {k v:PV} {kv vv:Value} {ms:Array MapEntry} {clock:Nat}
  (hm:w.heap[g]? =some (Obj.map ms clock)) (hk:Rep w im k kv) (hv:Rep w im v vv):
  Rel' C (st.setBox b (B.put k v)) a {w with heap:=w.heap.setIfInBounds g (.map (ms.push {key:=kv,val:=vv,born:=clock}) (clock+1))} ρ im:=by
 obtain⟨_,_,_,es',ms',clock',m1,m2,m3,m4,m5,m6⟩:=h.mapAt hg hB he;rw [he]at m1;cases m1;rw [hm]at m2;cases m2;have:=h.mapTurn hg hB he (es2:=es++[(k,v)]) (ms2:=ms.push {key:=kv,val:=vv,born:=clock}) (clock2:=clock+1) hm (by simpa using m3.append (.cons _ _ _ _ hk .nil)) (by simpa using m4.append (.cons _ _ _ _ hv .nil)) (by simp [m5]) (by
  intro i e hi;rw [Array.toList_push,List.getElem?_append]at hi;split at hi
  ·exact m6 i e hi
  ·rename_i hlt;have hi':=List.getElem?_eq_some_iff.1 hi;obtain⟨h1,h2⟩:=hi';simp only [List.length_singleton]at h1;have:i=ms.size:=by simp only [Array.length_toList]at hlt h1;omega
   simp [List.getElem_singleton]at h2;rw [←h2,this];exact m5)
 have e:B.put k v={B with mp:=some (es++[(k,v)])}:=by simp [Box.put,he]
 rw [e];exact this
theorem Qnq {v:PV} {u:Value} (hf:flatc v=true) (h:LR w im ρ v u):Rep w im v u:=by
 cases v<;>first
  |(simp [flatc]at hf;done)
  |(cases h;assumption)
theorem Qt1 {vs:List PV} {us:List Value} (hf:vs.all flatc=true) (h:LRL w im ρ vs us):RepL w im vs us:=by
 induction vs generalizing us with
 |nil=>cases h.nil_inv;exact .nil
 |cons v vs ih=>
  obtain⟨u,us',rfl,h1,h2⟩:=h.cons_inv;simp only [List.all_cons,Bool.and_eq_true]at hf;exact .cons _ _ _ _ (Qnq hf.1 h1) (ih hf.2 h2)
theorem Zc3 {k:PV} {u:Value} (hf:k.cells.all flatc=true) (h:LR w im ρ k u):Rep w im k u:=by
 have one:k.cells=[k]→Rep w im k u:=fun e=>by
  rw [e]at hf;exact Qnq (by simpa using hf) h
 cases k with
 |agg cs=>obtain⟨vs,rfl,hr⟩:=h.agg_inv;exact .agg _ _ (Qt1 hf hr)
 |_=>exact one rfl
theorem Qnr {T:TypeId} {x y v:Operand} {b:Nat} {k e r:PV} {es:List Eff} {l:Acc} (ho:o.op= .mapUpdate T x y v∨o.op= .insert T x y v) (h:Rel' C st a w ρ im) (hx:LR w im ρ (.mp b) (a.eval x)) (hy:LR w im ρ k (a.eval y)) (hv:LR w im ρ e (a.eval v))
  (he:Qhq C.P T b k e st.box=some (.done r es,l)):Does C (Qan es st) a w (execOp a.eval o) r:=by
 obtain⟨⟨K,E⟩,_,_,e1,e2,_⟩:=M.bind_some he;obtain⟨c1,_⟩:=M.ofOpt_some e1;obtain⟨sh,_,_,e3,e4,_⟩:=M.bind_some e2;obtain⟨c2,_⟩:=M.ofOpt_some e3;obtain⟨_,_,_,e5,e6,_⟩:=M.bind_some e4;obtain⟨c3,_⟩:=M.ok_some e5;obtain⟨⟨e',fs⟩,_,_,e7,e8,_⟩:=M.bind_some e6;obtain⟨Bo,_,_,e9,e10,_⟩:=M.bind_some e8;obtain⟨rfl,_⟩:=M.hard_some e9;obtain⟨B,_,_,e11,e12,_⟩:=M.bind_some e10;obtain⟨hB,_⟩:=M.ofOpt_some e11;obtain⟨ms0,_,_,e13,e14,_⟩:=M.bind_some e12;obtain⟨c5,_⟩:=M.ofOpt_some e13;obtain⟨_,_,_,e15,e16,_⟩:=M.bind_some e14;obtain⟨c6,_⟩:=M.ok_some e15;obtain⟨f,_,_,e17,e18,_⟩:=M.bind_some e16;obtain⟨c7,_⟩:=M.ofOpt_some e17;cases f with
 |some f=>cases e18
 |none=>
 obtain⟨e19,_⟩:=M.pure_some e18;cases e19;have c3:k.isAgg=Qa8 C.P K:=by simpa using c3
 rw [Bool.and_eq_true]at c6;have c62: ∀q∈fs,q.id≠b:=by simpa using c6.2
 obtain⟨im1,g1,r1⟩:=Qqx h (fun _=>rfl) hv e7;have hB':(Qan fs st).box b=some B:=by rw [Qfw _ _ c62];exact hB
 obtain⟨g,hg,ex⟩:=hx.mp_inv;obtain⟨_,_,_,es',ms,clock,m1,m2,m3,m4,_⟩:=g1.rel.mapAt hg hB' c5;rw [c5]at m1;cases m1;have hy1:LR w im1 ρ k (a.eval y):=hy.mono (Keeps.refl _ _) g1.im (fun _ _ x=>x);obtain⟨D,hD⟩:=Qh3 c2;obtain⟨ys,bb,hys⟩:=Qgw c7;have hck:=Qgv (P:=C.P) false c2 hy1 c3 hys;obtain⟨q,q1,q2⟩:=Qh2 hD c2 hy1 c3 m3 m4 c7;have hT:=Qnp c1;have hget:(getObj g).run C.P w= .ok (.map ms clock) w:=by simp [getObj,Sem.run,m2]
 have hset: ∀ob,(setObj g ob).run C.P w= .ok () {w with heap:=w.heap.setIfInBounds g ob}:=fun ob=>by simp [setObj,Sem.run,m2]
 cases q with
 |some q=>exact q2.elim
 |none=>
 have hkr:=Zc3 c6.1 hy1;have h9:=g1.rel.mapAdd hg hB' c5 m2 hkr r1;refine⟨undef,{w with heap:=w.heap.setIfInBounds g (.map (ms.push {key:=a.eval y,val:=a.eval v,born:=clock}) (clock+1))},ρ,im1,.inr ⟨?_,rfl⟩,?_,.ext _ _ (.tup [] [] .nil)⟩
 ·have:(Instr.mapUpdate T (a.eval x) (a.eval y) (a.eval v)).run C.P w= .ok () {w with heap:=w.heap.setIfInBounds g (.map (ms.push {key:=a.eval y,val:=a.eval v,born:=clock}) (clock+1))}:=by
   rw [ex];simp [Instr.mapUpdate,run_underlying hT,hget,hck,q1,hset]
  rcases ho with ho|ho<;>simp [execOp,ho,this]
 ·rw [Qav];simpa [Qay,Qbu,Eff.on]using h9
theorem Qwv {T:TypeId} {x y:Operand} {b:Nat} {k r:PV} {es:List Eff} {l:Acc} (ho:o.op= .mapEntry T x y) (h:Rel' C st a w ρ im) (hx:LR w im ρ (.mp b) (a.eval x)) (hy:LR w im ρ k (a.eval y))
  (he:Qkr C.P T b k st.box=some (.done r es,l)):Does C (Qan es st) a w (execOp a.eval o) r:=by
 obtain⟨⟨K,E⟩,_,_,e1,e2,_⟩:=M.bind_some he;obtain⟨c1,_⟩:=M.ofOpt_some e1;obtain⟨sh,_,_,e3,e4,_⟩:=M.bind_some e2;obtain⟨c2,_⟩:=M.ofOpt_some e3;obtain⟨_,_,_,e5,e6,_⟩:=M.bind_some e4;obtain⟨c3,_⟩:=M.ok_some e5;obtain⟨z,_,_,e7,e8,_⟩:=M.bind_some e6;obtain⟨c4,_⟩:=M.ofOpt_some e7;obtain⟨Bo,_,_,e9,e10,_⟩:=M.bind_some e8;obtain⟨rfl,_⟩:=M.hard_some e9;obtain⟨B,_,_,e11,e12,_⟩:=M.bind_some e10;obtain⟨hB,_⟩:=M.ofOpt_some e11;obtain⟨ms0,_,_,e13,e14,_⟩:=M.bind_some e12;obtain⟨c5,_⟩:=M.ofOpt_some e13;obtain⟨_,_,_,e15,e16,_⟩:=M.bind_some e14;obtain⟨c6,_⟩:=M.ok_some e15;obtain⟨f,_,_,e17,e18,_⟩:=M.bind_some e16;obtain⟨c7,_⟩:=M.ofOpt_some e17;cases f with
 |some f=>cases e18
 |none=>
 obtain⟨e19,_⟩:=M.pure_some e18;cases e19;have c3:k.isAgg=Qa8 C.P K:=by simpa using c3
 obtain⟨g,hg,ex⟩:=hx.mp_inv;obtain⟨_,_,_,es',ms,clock,m1,m2,m3,m4,m5,_⟩:=h.mapAt hg hB c5;rw [c5]at m1;cases m1;obtain⟨D,hD⟩:=Qh3 c2;obtain⟨ys,bb,hys⟩:=Qgw c7;have hck:=Qgv (P:=C.P) false c2 hy c3 hys;obtain⟨q,q1,q2⟩:=Qh2 hD c2 hy c3 m3 m4 c7;have hT:=Qnp c1;have hget:(getObj g).run C.P w= .ok (.map ms clock) w:=by simp [getObj,Sem.run,m2]
 have hset: ∀ob,(setObj g ob).run C.P w= .ok () {w with heap:=w.heap.setIfInBounds g ob}:=fun ob=>by simp [setObj,Sem.run,m2]
 obtain⟨zv,z1,z2⟩:=Qy8 (w:=w) (im:=im) c4;cases q with
 |some q=>exact q2.elim
 |none=>
 have hkr:=Zc3 c6 hy;have h9:=h.mapAdd hg hB c5 m2 hkr z2;have hlen:(ms0.length:Int)=(clock:Int):=by
  have:=m3.length;simp at this;rw [m5,this]
 have hrun:(Instr.mapEntry T (a.eval x) (a.eval y)).run C.P w= .ok (.tuple #[zv,goInt clock]) {w with heap:=w.heap.setIfInBounds g (.map (ms.push {key:=a.eval y,val:=zv,born:=clock}) (clock+1))}:=by
  rw [ex];simp [Instr.mapEntry,run_underlying hT,hget,hck,q1,z1,hset]
 refine⟨.tuple #[zv,goInt clock],{w with heap:=w.heap.setIfInBounds g (.map (ms.push {key:=a.eval y,val:=zv,born:=clock}) (clock+1))},ρ,im,.inl (by simp [execOp,ho,hrun]),by simpa [Qay,Qbu,Eff.on]using h9,?_⟩;rw [hlen];refine .tup _ [zv,goInt clock] (.cons _ _ _ _ ((LR.ext (ρ:=ρ) _ _ z2).mono0 ?_ ?_ (fun _ _ x=>x) fun _ _ x=>x) (.cons _ _ _ _ (.ext _ _ (.int _ _)) .nil))
 ·intro g' j hi;by_cases e:g'=g
  ·subst e;obtain⟨u,hu⟩:=h.imc g' j hi;exfalso;simp [World.cell?,m2]at hu
  ·exact World.cell?_of_block (w:=w) (a:=⟨g',j,none⟩) (by simp [Array.getElem?_setIfInBounds,show¬g=g' from fun x=>e x.symm])
 ·intro g' cur e hc;refine⟨cur,?_,rfl⟩;have: ¬g=g':=by rintro rfl;rw [m2]at hc;cases hc
  simpa [Array.getElem?_setIfInBounds,this]using hc
theorem Qww {T:TypeId} {x y v:Operand} {b:Nat} {q:IntKind} {n:Int} {e r:PV} {es:List Eff} {l:Acc} (ho:o.op= .entryStore T x y v) (h:Rel' C st a w ρ im) (hx:LR w im ρ (.mp b) (a.eval x)) (hy:LR w im ρ (.int q n) (a.eval y)) (hv:LR w im ρ e (a.eval v))
  (he:Qks b n e st.box=some (.done r es,l)):Does C (Qan es st) a w (execOp a.eval o) r:=by
 obtain⟨⟨e',fs⟩,_,_,e7,e8,_⟩:=M.bind_some he;obtain⟨Bo,_,_,e9,e10,_⟩:=M.bind_some e8;obtain⟨rfl,_⟩:=M.hard_some e9;obtain⟨B,_,_,e11,e12,_⟩:=M.bind_some e10;obtain⟨hB,_⟩:=M.ofOpt_some e11;obtain⟨ms0,_,_,e13,e14,_⟩:=M.bind_some e12;obtain⟨c5,_⟩:=M.ofOpt_some e13;obtain⟨_,_,_,e15,e16,_⟩:=M.bind_some e14;obtain⟨c6,_⟩:=M.ok_some e15;obtain⟨e19,_⟩:=M.pure_some e16;cases e19;simp only [Bool.and_eq_true,decide_eq_true_eq]at c6;obtain⟨⟨c61,c62⟩,c63⟩:=c6;have c63: ∀q∈fs,q.id≠b:=by simpa using c63
 obtain⟨i,rfl⟩: ∃i:Nat,n=(i:Int):=⟨n.toNat,by omega⟩;obtain⟨im1,g1,r1⟩:=Qhh h (fun _=>rfl) hv e7;have hB':(Qan fs st).box b=some B:=by rw [Qfw _ _ c63];exact hB
 obtain⟨g,hg,ex⟩:=hx.mp_inv;have ey:=hy.int_inv;obtain⟨_,_,_,es',ms,clock,m1,m2,m3,m4,m5,m6⟩:=g1.rel.mapAt hg hB' c5;rw [c5]at m1;cases m1;have hlen:ms0.length=ms.size:=by have:=m3.length;simpa using this
 have hi:i<ms.size:=by omega
 have hget:(getObj g).run C.P w= .ok (.map ms clock) w:=by simp [getObj,Sem.run,m2]
 have hset: ∀ob,(setObj g ob).run C.P w= .ok () {w with heap:=w.heap.setIfInBounds g ob}:=fun ob=>by simp [setObj,Sem.run,m2]
 have hfind:ms.findIdx? (fun e=>(e.born:Int)==(i:Int))=some i:=by
  rw [Array.findIdx?_eq_some_iff_getElem];refine⟨hi,?_,fun j hj=> ?_⟩
  ·have:=m6 i ms[i] (by rw [Array.getElem?_toList];exact Array.getElem?_eq_getElem hi);simp [this]
  ·have:=m6 j (ms[j]'(by omega)) (by rw [Array.getElem?_toList];exact Array.getElem?_eq_getElem (by omega));simp [this];omega
 have hmod:(ms.modify i fun e=>{e with val:=a.eval v}).toList=ms.toList.modify i fun e=>{e with val:=a.eval v}:=by simp
 have h9:=g1.rel.mapTurn hg hB' c5 (es2:=ms0.modify i fun p=>(p.1,e')) (ms2:=ms.modify i fun e=>{e with val:=a.eval v}) (clock2:=clock) m2 (by
   rw [hmod];have k1:(ms0.modify i fun p=>(p.1,e')).map (·.1)=ms0.map (·.1):=by
    apply List.ext_getElem?;intro j;simp only [List.getElem?_map,List.getElem?_modify];cases ms0[j]? <;>simp;split<;>rfl
   have k2:(ms.toList.modify i fun e=>{e with val:=a.eval v}).map (·.key)=ms.toList.map (·.key):=by
    apply List.ext_getElem?;intro j;simp only [List.getElem?_map,List.getElem?_modify];cases ms.toList[j]? <;>simp;split<;>rfl
   rw [k1,k2];exact m3) (by
   rw [hmod];have k1:(ms0.modify i fun p=>(p.1,e')).map (·.2)=(ms0.map (·.2)).take i++e'::(ms0.map (·.2)).drop (i+1):=by
    apply List.ext_getElem?;intro j;rw [List.getElem?_map,List.getElem?_modify];by_cases x1:j<i
    ·rw [List.getElem?_append_left (by simp;omega),List.getElem?_take_of_lt x1,List.getElem?_map];cases ms0[j]? <;>simp [show¬i=j from by omega]
    ·rw [List.getElem?_append_right (by simp;omega)];have hlt:min i ms0.length=i:=by omega
     by_cases x2:j=i
     ·subst x2;rw [List.getElem?_eq_getElem (by omega)];simp [hlt]
     ·obtain⟨d,rfl⟩: ∃d,j=i+1+d:=⟨j-i-1,by omega⟩;simp only [List.length_take,List.length_map,hlt];rw [show i+1+d-i=d+1 from by omega,List.getElem?_cons_succ,List.getElem?_drop,List.getElem?_map];cases ms0[i+1+d]? <;>simp [show¬i=i+1+d from by omega]
   have k2:(ms.toList.modify i fun e=>{e with val:=a.eval v}).map (·.val)=(ms.toList.map (·.val)).take i++a.eval v::(ms.toList.map (·.val)).drop (i+1):=by
    apply List.ext_getElem?;intro j;rw [List.getElem?_map,List.getElem?_modify];by_cases x1:j<i
    ·rw [List.getElem?_append_left (by simp;omega),List.getElem?_take_of_lt x1,List.getElem?_map];cases ms.toList[j]? <;>simp [show¬i=j from by omega]
    ·rw [List.getElem?_append_right (by simp;omega)];have hlt:min i ms.size=i:=by omega
     by_cases x2:j=i
     ·subst x2;rw [List.getElem?_eq_getElem (by simpa using hi)];simp [hlt]
     ·obtain⟨d,rfl⟩: ∃d,j=i+1+d:=⟨j-i-1,by omega⟩;simp only [List.length_take,List.length_map,Array.length_toList,hlt];rw [show i+1+d-i=d+1 from by omega,List.getElem?_cons_succ,List.getElem?_drop,List.getElem?_map];cases ms.toList[i+1+d]? <;>simp [show¬i=i+1+d from by omega]
   rw [k1,k2];exact(m4.take i).append (.cons _ _ _ _ r1 (m4.drop (i+1)))) (by simpa using m5) (by
   rw [hmod];intro j e0 hj;rw [List.getElem?_modify]at hj;cases hx0:ms.toList[j]? with
   |none=>rw [hx0]at hj;simp at hj
   |some e1=>
    rw [hx0]at hj;have:=m6 j e1 hx0;simp at hj;split at hj<;>(subst hj;exact this))
 have hfl:B.fill (i:Int).toNat e'={B with mp:=some (ms0.modify i fun p=>(p.1,e'))}:=by simp [Box.fill,c5]
 refine⟨undef,{w with heap:=w.heap.setIfInBounds g (.map (ms.modify i fun e=>{e with val:=a.eval v}) clock)},ρ,im1,.inr ⟨?_,rfl⟩,?_,.ext _ _ (.tup [] [] .nil)⟩
 ·have:(Instr.entryStore T (a.eval x) (a.eval y) (a.eval v)).run C.P w= .ok () {w with heap:=w.heap.setIfInBounds g (.map (ms.modify i fun e=>{e with val:=a.eval v}) clock)}:=by
   rw [ex,ey];simp [Instr.entryStore,hget,asInt,asIntOf,hfind,hset]
  simp [execOp,ho,this]
 ·rw [Qav];simp only [Qay,Qbu,Eff.on,hfl];exact h9
end
section
variable {C:Ctx} {st:St} {a:Act} {w:World} {ρ:Rho} {im:Im} {o:Oper}

theorem RepL.flat_cells {w:World} {im:Im}: ∀{vs:List PV} {us:List Value},RepL w im vs us→(∀e∈vs,Qa4 e.cells=true)→RepL w im (vs.flatMap PV.cells) (us.flatMap fun u=>u.cells.toList)
  |_,_,.nil,_=> .nil
  |_,_,.cons v u vs us h t,ho=>by
    simp only [List.flatMap_cons];exact(h.cells (ho v (by simp))).append (t.flat_cells fun e he=>ho e (by simp [he]))

theorem Qdx {vs:List PV} (ho: ∀e∈vs,Qa4 e.cells=true):(vs.flatMap PV.cells).all PV.okCell=true:=by
  simp only [List.all_eq_true,List.mem_flatMap];rintro x ⟨e,he,hx⟩;exact List.all_eq_true.1 (ho e he) x hx

theorem Qgr {P:Program} {w:World} {T E:TypeId} {i:TypeInfo} (ps:Array (Nat×Value)) (hT:P.underlying T=some (.slice E)) (hi:P.info? E=some i) (hp:ps.toList=[]):
    (Instr.buildSlice T 0 ps).run P w= .ok (.slice (some ⟨w.heap.size,0,none⟩) 0 0) (w.alloc (.cells #[] E)):=by
  have h0:Array.map (fun(_:Nat)=>(default:Value)) (Array.range 0)= #[]:=by apply Array.ext';simp
  simp [Instr.buildSlice,run_underlying hT,sizeOf,typeInfo,hi,newRow,Instr.fill,hp,h0]
theorem Qnb {tb:Tab} {id n:Nat} (hidL:id<LENT) {T:TypeId} {parts:Array (Nat×Operand)} {vs:List PV} {r:PV} {es:List Eff} {l:Acc} (ho:o.op= .buildSlice T n parts) (h:Rel' C st a w ρ im)
    (hv:LRL w im ρ vs (o.op.operands.toList.map a.eval)) (hl:lkp tb id=none) (he:Qa6 C.P tb id o.op vs st.box=some (.done r es,l)):Does C (Qan es st) a w (execOp a.eval o) r:=by
  rw [ho]at he hv;simp only [Qa6,hl]at he;obtain⟨_,_,_,e1,e2,_⟩:=M.bind_some he;obtain⟨c1,_⟩:=M.ok_some e1;obtain⟨E,_,_,e3,e4,_⟩:=M.bind_some e2;obtain⟨c2,_⟩:=M.ofOpt_some e3;obtain⟨q,_,_,e5,e6,_⟩:=M.bind_some e4;obtain⟨c3,_⟩:=M.ofOpt_some e5;obtain⟨z,_,_,e7,e8,_⟩:=M.bind_some e6;obtain⟨c4,_⟩:=M.ofOpt_some e7;obtain⟨b,_,_,e9,e10,_⟩:=M.bind_some e8;obtain⟨rfl,_⟩:=M.hard_some e9;obtain⟨⟨ys,fs⟩,_,_,e11,e12,_⟩:=M.bind_some e10;obtain⟨_,_,_,e13,e14,_⟩:=M.bind_some e12;obtain⟨c5,_⟩:=M.ok_some e13;obtain⟨e15,_⟩:=M.pure_some e14;cases e15;simp only [Bool.and_eq_true,decide_eq_true_eq,beq_iff_eq,List.all_eq_true,Option.isNone_iff_eq_none]at c1 c5;obtain⟨⟨⟨⟨⟨d1,d2⟩,d3⟩,d4⟩,d5⟩,d6⟩:=c5;obtain⟨c11,c13⟩:=c1;obtain⟨i,hi,hi1,hi2⟩:=Qbh c3;obtain⟨i',zv,hz1,hz2,hz3⟩:=Qcr c4;rw [hi]at hz1;cases hz1;have hT:=Qbq c2;simp only [Op.operands,List.map_map]at hv;obtain⟨im1,g1,r1⟩:=Qje h (fun _=>rfl) hv e11;have hus:=r1.length;rw [d3]at hus;have hrl:=r1.flat_cells fun e he=>(d4 e he).2;generalize husg:parts.toList.map (a.eval∘fun x=>x.2)=us at*;have hsize: ∀u∈us,u.cells.size=q.1:=by
    have key: ∀(vs:List PV) (us:List Value),RepL w im1 vs us→(∀e∈vs,e.cells.length=q.1∧Qa4 e.cells=true)→ ∀u∈us,u.cells.size=q.1:=by
      intro vs
      induction vs with
      |nil=>intro us hr _ u hu;cases hr;simp at hu
      |cons v vs ih=>
        intro us hr ho u hu;cases hr with
        |cons _ u0 _ us0 h0 t=>
          rcases List.mem_cons.1 hu with rfl|hu
          · have:=(h0.cells (ho v (by simp)).2).length;rw [(ho v (by simp)).1]at this;simpa using this.symm
          · exact ih _ t (fun e he=>ho e (by simp [he])) u hu
    exact key ys us r1 d4
  have hparts:(parts.map fun(i,x)=>(i,a.eval x)).toList=(us.zipIdx 0).map fun x=>(x.2,x.1):=by
    rw [←husg];apply List.ext_getElem?;intro k;simp only [Array.toList_map,List.getElem?_map,List.zipIdx_map,List.getElem?_zipIdx,Array.getElem?_toList];have hk:(parts.toList.map (·.1))[k]? =(List.range n)[k]? :=by rw [c11]
    simp only [List.getElem?_map,Array.getElem?_toList]at hk;cases hp:parts[k]? with
    |none=>simp
    |some p=>
      rw [hp]at hk;simp only [Option.map_some]at hk;have hkn:k<n:=by
        rcases Nat.lt_or_ge k n with x|x
        · exact x
        · rw [List.getElem?_eq_none (by simpa using x)]at hk;cases hk
      rw [List.getElem?_range hkn]at hk;cases hk;simp
  have hfill:=Great.fill_whole (s:=q.1) (by omega) us ((Array.range (n*i.size)).map (zv.cells[· %zv.cells.size]!)) hsize (by simp;rw [hi1,←hus]);have hnq:n*q.1≤1000*1000:=Nat.mul_le_mul c13 d6;have hrun:(Instr.buildSlice T n (parts.map fun(i,x)=>(i,a.eval x))).run C.P w= .ok (.slice (some ⟨w.heap.size,0,none⟩) n n) (w.alloc (.cells (us.flatMap fun v=>v.cells.toList).toArray E)):=by
    clear e2 e4 e6 e8 e10 e12 e14 he hv hsize husg;rcases Nat.eq_zero_or_pos n with h0|c12
    · subst h0;obtain rfl:us=[]:=List.length_eq_zero_iff.1 (by omega);exact Qgr _ hT hi (by rw [hparts];rfl)
    · have hnp:0<n*q.1:=Nat.mul_pos c12 d5;have:=run_buildSlice (P:=C.P) w T E n (parts.map fun(i,x)=>(i,a.eval x)) _ i zv hT hi hz2 (by rw [hi1];omega) (by rw [hi1];omega) (by rw [hparts,hi1];rw [hi1]at hfill;exact hfill);exact this
  have hok:=Qdx fun e he=>(d4 e he).2;obtain⟨h1,h2,h3⟩:=g1.rel.newBox hidL (g1.no id d1) {els:=ys,esz:=q.1,ety:=E,fro:=0,live:=true,arr:=true} (us.flatMap fun u=>u.cells.toList) [] rfl d5 (fun e he=>(d4 e he).1) rfl
    hrl.toLRL (fun _=>hrl) (hrl.toLRL (ρ:=ρ) |>.oneCells hok)
  have hul:=hrl.length;rw [Qau (fun e he=>(d4 e he).1),d3]at hul;refine⟨.slice (some ⟨w.heap.size,0,none⟩) n n,w.alloc (.cells (us.flatMap fun v=>v.cells.toList).toArray E),upd ρ id (some (some w.heap.size)),im1,.inl ?_,?_,?_⟩
  · simp [execOp,ho,hrun]
  · rw [Qav];simpa [Qan,Eff.on]using h1
  · exact .bs id q.1 0 n w.heap.size 0 n _ E (Qao _ _ _) (heap_alloc_new w _) (by simp) (by simp [←hul]) (Nat.le_refl _) (by simp only [maxLen];omega)

theorem LRL.flat_cellsL {w:World} {im:Im} {ρ:Rho}: ∀{vs:List PV} {us:List Value},LRL w im ρ vs us→(∀e∈vs,Qa4 e.cells=true)→LRL w im ρ (vs.flatMap PV.cells) (us.flatMap fun u=>u.cells.toList)
  |_,_,.nil,_=> .nil
  |_,_,.cons v u vs us h t,ho=>by
    simp only [List.flatMap_cons];exact(h.cells (ho v (by simp))).append (t.flat_cellsL fun e he=>ho e (by simp [he]))
theorem Qwj {id n:Nat} (hidL:id<LENT) {T:TypeId} {parts:Array (Nat×Operand)} {vs:List PV} {r:PV} {es:List Eff} {l:Acc} (ho:o.op= .buildSlice T n parts) (h:Rel' C st a w ρ im)
    (hv:LRL w im ρ vs (o.op.operands.toList.map a.eval)) (he:Qi7 C.P id T n parts vs st.box=some (.done r es,l)):Does C (Qan es st) a w (execOp a.eval o) r:=by
  rw [ho]at hv;unfold Qi7 at he;obtain⟨_,_,_,e1,e2,_⟩:=M.bind_some he;obtain⟨c1,_⟩:=M.ok_some e1;obtain⟨E,_,_,e3,e4,_⟩:=M.bind_some e2;obtain⟨c2,_⟩:=M.ofOpt_some e3;obtain⟨q,_,_,e5,e6,_⟩:=M.bind_some e4;obtain⟨c3,_⟩:=M.ofOpt_some e5;obtain⟨z,_,_,e7,e8,_⟩:=M.bind_some e6;obtain⟨c4,_⟩:=M.ofOpt_some e7;obtain⟨b,_,_,e9,e10,_⟩:=M.bind_some e8;obtain⟨rfl,_⟩:=M.hard_some e9;obtain⟨_,_,_,e13,e14,_⟩:=M.bind_some e10;obtain⟨c5,_⟩:=M.ok_some e13;obtain⟨e15,_⟩:=M.pure_some e14;cases e15;simp only [Bool.and_eq_true,decide_eq_true_eq,beq_iff_eq,List.all_eq_true,Option.isNone_iff_eq_none]at c1 c5;obtain⟨⟨⟨⟨⟨d1,d2⟩,d3⟩,d4⟩,d5⟩,d6⟩:=c5;obtain⟨c11,c13⟩:=c1;obtain⟨i,hi,hi1,hi2⟩:=Qbh c3;obtain⟨i',zv,hz1,hz2,hz3⟩:=Qcr c4;rw [hi]at hz1;cases hz1;have hT:=Qbq c2;simp only [Op.operands,List.map_map]at hv;have r1:=hv;have hus:=r1.length;rw [d3]at hus;have hrl:=r1.flat_cellsL fun e he=>(d4 e he).2;generalize husg:parts.toList.map (a.eval∘fun x=>x.2)=us at*;have hsize: ∀u∈us,u.cells.size=q.1:=by
    have key: ∀(vs:List PV) (us:List Value),LRL w im ρ vs us→(∀e∈vs,e.cells.length=q.1∧Qa4 e.cells=true)→ ∀u∈us,u.cells.size=q.1:=by
      intro vs
      induction vs with
      |nil=>intro us hr _ u hu;cases hr;simp at hu
      |cons v vs ih=>
        intro us hr ho u hu;cases hr with
        |cons _ u0 _ us0 h0 t=>
          rcases List.mem_cons.1 hu with rfl|hu
          · have:=(h0.cells (ho v (by simp)).2).length;rw [(ho v (by simp)).1]at this;simpa using this.symm
          · exact ih _ t (fun e he=>ho e (by simp [he])) u hu
    exact key vs us r1 d4
  have hparts:(parts.map fun(i,x)=>(i,a.eval x)).toList=(us.zipIdx 0).map fun x=>(x.2,x.1):=by
    rw [←husg];apply List.ext_getElem?;intro k;simp only [Array.toList_map,List.getElem?_map,List.zipIdx_map,List.getElem?_zipIdx,Array.getElem?_toList];have hk:(parts.toList.map (·.1))[k]? =(List.range n)[k]? :=by rw [c11]
    simp only [List.getElem?_map,Array.getElem?_toList]at hk;cases hp:parts[k]? with
    |none=>simp
    |some p=>
      rw [hp]at hk;simp only [Option.map_some]at hk;have hkn:k<n:=by
        rcases Nat.lt_or_ge k n with x|x
        · exact x
        · rw [List.getElem?_eq_none (by simpa using x)]at hk;cases hk
      rw [List.getElem?_range hkn]at hk;cases hk;simp
  have hfill:=Great.fill_whole (s:=q.1) (by omega) us ((Array.range (n*i.size)).map (zv.cells[· %zv.cells.size]!)) hsize (by simp;rw [hi1,←hus]);have hnq:n*q.1≤1000*1000:=Nat.mul_le_mul c13 d6;have hrun:(Instr.buildSlice T n (parts.map fun(i,x)=>(i,a.eval x))).run C.P w= .ok (.slice (some ⟨w.heap.size,0,none⟩) n n) (w.alloc (.cells (us.flatMap fun v=>v.cells.toList).toArray E)):=by
    clear e2 e4 e6 e8 e10 e14 he hv hsize husg;rcases Nat.eq_zero_or_pos n with h0|c12
    · subst h0;obtain rfl:us=[]:=List.length_eq_zero_iff.1 (by omega);exact Qgr _ hT hi (by rw [hparts];rfl)
    · have hnp:0<n*q.1:=Nat.mul_pos c12 d5;have:=run_buildSlice (P:=C.P) w T E n (parts.map fun(i,x)=>(i,a.eval x)) _ i zv hT hi hz2 (by rw [hi1];omega) (by rw [hi1];omega) (by rw [hparts,hi1];rw [hi1]at hfill;exact hfill);exact this
  have hok:=Qdx fun e he=>(d4 e he).2;obtain⟨h1,h2,h3⟩:=h.newBox hidL d1 {els:=vs,esz:=q.1,ety:=E,fro:=0,live:=true,arr:=false} (us.flatMap fun u=>u.cells.toList) [] rfl d5 (fun e he=>(d4 e he).1) rfl
    hrl (fun e=>by cases e) (hrl.oneCells hok)
  have hul:=hrl.length;rw [Qau (fun e he=>(d4 e he).1),d3]at hul;refine⟨.slice (some ⟨w.heap.size,0,none⟩) n n,w.alloc (.cells (us.flatMap fun v=>v.cells.toList).toArray E),upd ρ id (some (some w.heap.size)),im,.inl ?_,?_,?_⟩
  · simp [execOp,ho,hrun]
  · simpa [Qan,Eff.on]using h1
  · exact .bs id q.1 0 n w.heap.size 0 n _ E (Qao _ _ _) (heap_alloc_new w _) (by simp) (by simp [←hul]) (Nat.le_refl _) (by simp only [maxLen];omega)

theorem Qkv {P:Program} {T:TypeId} {i:TypeInfo} {g p:Nat} {u:Value} {cur:Array Value} {t:TypeId} {w:World} (hi:P.info? T=some i) (hn:u.cells.size=i.size) (hg:w.heap[g]? =some (Obj.cells cur t (0,0)))
    (hl:p+u.cells.size≤cur.size) (h1: ∀v∈u.cells.toList,v.oneCell'=true):
    (storeVar T ⟨g,p,none⟩ u).run P w= .ok () (w.setRow g (cur.toList.take p++u.cells.toList++cur.toList.drop (p+u.cells.toList.length)).toArray):=by
  have:=run_storeCells_at P g p t u.cells.toList 0 cur w hg (by simpa using hl) h1;simp only [Nat.add_zero]at this;simp [storeVar,Qa5 hi,hn,this]

/-- Elements of a box overwritten,in the world. -/
theorem Rel'.over {C:Ctx} {st:St} {a:Act} {w:World} {ρ:Rho} {im:Im} (h:Rel' C st a w ρ im) {b g off:Nat} {B:Box} {xs:List PV} {us':List Value}
    (hρ:ρ b=some (some g)) (hB:st.box b=some B) (hcl: ∃cur e,w.heap[g]? =some (Obj.cells cur e (0,0))) (hl:B.live=true) (hf:B.fro≤off) (hlen:off+xs.length≤B.els.length) (hxz: ∀e∈xs,e.cells.length=B.esz)
    (hok:(xs.flatMap PV.cells).all PV.okCell=true) (hr:RepL w im (xs.flatMap PV.cells) us'):
    ∃(cur:Array Value),w.heap[g]? =some (Obj.cells cur B.ety (0,0))∧off*B.esz+us'.length≤cur.size∧
      Rel' C (st.setBox b (B.over off xs)) a (w.setRow g (cur.toList.take (off*B.esz)++us'++cur.toList.drop (off*B.esz+us'.length)).toArray) ρ im:=by
  obtain⟨h1,h2,h3,h4,⟨hmn,cur,us,rest,h5,h6,h7,h8,h9,h10,h11⟩|hm⟩:=h.box b _ B hρ hB
  case inr=>obtain⟨_,_,y⟩:=hcl;exact(hm.not_cells y).elim
  have hul:us.length=B.els.length*B.esz:=by rw [←h7.length,Qau h4]
  have hvl:us'.length=xs.length*B.esz:=by rw [←hr.length,Qau hxz]
  have hmul:off*B.esz+xs.length*B.esz≤B.els.length*B.esz:=by rw [←Nat.add_mul];exact Nat.mul_le_mul_right _ hlen
  have hpu:off*B.esz+us'.length≤us.length:=by omega
  have hcs:cur.size=us.length+rest.length:=by rw [←Array.length_toList,h6];simp
  have hfi:B.fro*B.esz≤off*B.esz:=Nat.mul_le_mul_right _ hf;refine⟨cur,h5,by omega,?_⟩;have hsz:(cur.toList.take (off*B.esz)++us'++cur.toList.drop (off*B.esz+us'.length)).toArray.size=cur.size:=by simp;omega
  have hni: ∀j,B.fro*B.esz≤j→ ¬im g j:=h11 hl;have hk:Keeps im w (w.setRow g (cur.toList.take (off*B.esz)++us'++cur.toList.drop (off*B.esz+us'.length)).toArray):=by
    refine Keeps.setRow h5 hsz ?_;intro j hj;have:j<B.fro*B.esz:=by
      rcases Nat.lt_or_ge j (B.fro*B.esz)with x|x
      · exact x
      · exact absurd hj (hni j x)
    rw [List.getElem?_toArray,Qe7 _ _ _ _ (by simp;omega) (.inl (by omega)),Array.getElem?_toList]
  have hg':=setRow_heap w g cur (cur.toList.take (off*B.esz)++us'++cur.toList.drop (off*B.esz+us'.length)).toArray B.ety _ h5;have hflat:(B.over off xs).els.flatMap PV.cells=(B.els.flatMap PV.cells).take (off*B.esz)++xs.flatMap PV.cells++(B.els.flatMap PV.cells).drop (off*B.esz+us'.length):=by
    simp only [Box.over,List.flatMap_append];rw [hvl,Qen off h4,←Nat.add_mul,Qe6 (off+xs.length) h4]
  have hurest:(cur.toList.take (off*B.esz)++us'++cur.toList.drop (off*B.esz+us'.length))=(us.take (off*B.esz)++us'++us.drop (off*B.esz+us'.length))++rest:=by
    rw [h6,List.take_append_of_le_length (by omega),List.drop_append_of_le_length (by omega)];simp
  have hell:(B.over off xs).els.length=B.els.length:=by simp [Box.over];omega
  refine⟨h.step ⟨Lent.setRow ⟨b,hρ⟩ _ _,hk,fun _ x=> .inl x,fun _ _ x=>x,fun _ _ x=> .inl x⟩ h.root.rho0,h.nt,Qhe hk h.dfr,?_,?_,?_,?_,?_⟩
  · intro g' j x;rw [hk.cell g' j x];exact h.imc g' j x
  · exact fun t v hv=>(h.var t v hv).mono hk (fun _ _ x=>x) (fun _ _ x=>x)
  · intro b';by_cases x:b'=b
    · subst x;simp [St.setBox,Qao,hρ]
    · simp [St.setBox,Qal _ _ _ _ x,h.rho b']
  · intro b' x B' hx hB';by_cases eb:b'=b
    · subst eb;simp only [St.setBox,Qao,Option.some.injEq]at hB';rw [hρ]at hx;cases hx;subst hB';refine⟨h1,by rw [hell];exact h2,h3,?_,.inl ⟨hmn,_,us.take (off*B.esz)++us'++us.drop (off*B.esz+us'.length),rest,hg',?_,?_,?_,?_,?_,?_⟩⟩
      · intro e' he';simp only [Box.over,List.mem_append]at he';rcases he' with(x|x)|x
        · exact h4 e' (List.mem_of_mem_take x)
        · exact hxz e' x
        · exact h4 e' (List.mem_of_mem_drop x)
      · simpa using hurest
      · rw [hflat];exact(((h7.take _).append hr.toLRL).append (h7.drop _)).mono hk (fun _ _ x=>x) (fun _ _ x=>x)
      · intro ha';rw [hflat];exact((((h8 ha').take _).append hr).append ((h8 ha').drop _)).mono hk.cell (fun _ _ x=>x)
      · intro u hu;simp only [List.mem_append]at hu;rcases hu with(hu|hu)|hu
        · exact h9 u (List.mem_of_mem_take hu)
        · exact(hr.toLRL (ρ:=ρ)).oneCells hok u hu
        · exact h9 u (List.mem_of_mem_drop hu)
      · intro j hj hh;refine h10 j ?_ hh;simp at hj;omega
      · exact fun _ j hj=>hni j hj
    · simp only [St.setBox,Qal _ _ _ _ eb]at hB';refine(h.box b' x B' hx hB').mono hk (fun _ _ x=>x) (fun _ _ _ _ x=>x) (fun _ _ x=>x) ?_;intro hl' g' e';subst e';have:g'≠g:=fun e=>eb (h.inj b' b g' B' B hx (by rw [e];exact hρ) hB' hB hl' hl);exact Qcl w g g' _ this
  · intro b1 b2 g1 B1 B2 p1 p2 e1 e2 l1 l2;have f: ∀b0 B0,(st.setBox b (B.over off xs)).box b0=some B0→B0.live=true→ ∃B3,st.box b0=some B3∧B3.live=true:=by
      intro b0 B0 e0 l0;by_cases x:b0=b
      · subst x;exact⟨B,hB,hl⟩
      · simp only [St.setBox,Qal _ _ _ _ x]at e0;exact⟨B0,e0,l0⟩
    obtain⟨B3,e3,l3⟩:=f b1 B1 e1 l1;obtain⟨B4,e4,l4⟩:=f b2 B2 e2 l2;exact h.inj b1 b2 g1 B3 B4 p1 p2 e3 e4 l3 l4

theorem Qyy {v:PV} (h:flatc v=true):v.okCell=true:=by cases v<;>first|rfl|(simp [flatc]at h)
theorem Qwk {w:World} {im im2:Im} {v:PV} {u:Value} (hf:flatc v=true) (h:Rep w im v u):Rep w im2 v u:=by
  cases v<;>first
    |(simp [flatc]at hf;done)
    |(cases h<;>constructor)
theorem Qkw {w:World} {im im2:Im}: ∀{vs:List PV} {us:List Value},vs.all flatc=true→RepL w im vs us→RepL w im2 vs us
  | [],_,_,.nil=> .nil
  |v::vs,_,hf,.cons _ u _ us h t=>by
    simp only [List.all_cons,Bool.and_eq_true]at hf;exact .cons _ _ _ _ (Qwk hf.1 h) (Qkw hf.2 t)

theorem Z0e {st:St} {b i:Nat} {e:PV} {B:Box} (hB:st.box b=some B):(Eff.wr b i e).on st=st.setBox b {B with els:=B.els.set i e}:=by simp [Eff.on,hB]

theorem Qjf (e:Eff) (st:St) {b:Nat} (h:e.id≠b):(e.on st).box b=st.box b:=by
  cases e<;>simp only [Eff.id]at h<;>simp only [Eff.on]<;>first
    |rfl
    |(simp only [St.setBox];exact Qal _ _ _ _ fun x=>h x.symm)
    |(split
      · simp only [St.setBox];exact Qal _ _ _ _ fun x=>h x.symm
      · rfl)
theorem Qdy: ∀(es:List Eff) (st:St) {b:Nat},(∀e∈es,e.id≠b)→(Qan es st).box b=st.box b
  | [],_,_,_=>rfl
  |e::es,st,b,h=>by
    rw [Qay,Qdy es _ fun x hx=>h x (by simp [hx])];exact Qjf e st (h e (by simp))

theorem Q2t {tb:Tab} {id:Nat} {T:TypeId} {x y:Operand} {b esz i off:Nat} {v r:PV} {es:List Eff} {l:Acc} (ho:o.op= .store T x y) (h:Rel' C st a w ρ im)
    (hx:LR w im ρ (.bp b esz i off) (a.eval x)) (hy:LR w im ρ v (a.eval y)) (he:Qa6 C.P tb id o.op [.bp b esz i off,v] st.box=some (.done r es,l)):Does C (Qan es st) a w (execOp a.eval o) r:=by
  rw [ho]at he;simp only [Qa6]at he;obtain⟨Bo,_,_,e1,e2,_⟩:=M.bind_some he;obtain⟨rfl,_⟩:=M.hard_some e1;obtain⟨B,_,_,e3,e4,_⟩:=M.bind_some e2;obtain⟨hB,_⟩:=M.ofOpt_some e3;obtain⟨e,_,_,e5,e6,_⟩:=M.bind_some e4;obtain⟨hel,_⟩:=M.ofOpt_some e5;obtain⟨_,_,_,e7,e8,_⟩:=M.bind_some e6;obtain⟨c,_⟩:=M.ok_some e7;simp only [Bool.and_eq_true,decide_eq_true_eq,beq_iff_eq]at c;obtain⟨⟨⟨⟨⟨⟨c0,c1⟩,c2⟩,c3⟩,c4⟩,c5⟩,c6⟩:=c;subst c0;obtain⟨ti,hti⟩:=Option.isSome_iff_exists.1 c3;rw [Qgp hti]at c4;obtain⟨g,hg,ex⟩:=hx.bp_inv;have hcells:=hy.cells c5;have hul:(a.eval y).cells.size=v.cells.length:=by rw [hcells.length];simp
  split at e8
  · rename_i harr;obtain⟨⟨ys,fs⟩,_,_,e9,e10,_⟩:=M.bind_some e8;obtain⟨_,_,_,e11,e12,_⟩:=M.bind_some e10;obtain⟨c7,_⟩:=M.ok_some e11;obtain⟨e13,_⟩:=M.pure_some e12;cases e13;obtain⟨im1,g1,r1⟩:=Qqw h (fun _=>rfl) hcells e9;have hyl:=r1.length;simp only [Bool.and_eq_true,List.all_eq_true,bne_iff_ne]at c7;have hB':(Qan fs st).box b=some B:=by rw [Qdy _ _ c7.2];exact hB
    obtain⟨cur,k1,k2,k3⟩:=g1.rel.write (vs:=ys) hg hB' c1 c2 hel (by rw [hyl,←hcells.length];exact c6) c7.1 r1.toLRL (fun _=>r1);have hrun:=Qkv (P:=C.P) (T:=T) (u:=a.eval y) hti (by omega) k1 (by simpa using k2) (hcells.oneCells c5);refine⟨undef,w.setRow g (cur.toList.take (i*B.esz+off)++(a.eval y).cells.toList++cur.toList.drop (i*B.esz+off+(a.eval y).cells.toList.length)).toArray,ρ,im1,.inr ⟨?_,rfl⟩,?_,?_⟩
    · simp [execOp,ho,ex,Instr.storeAt,Instr.sureAddr,hrun]
    · rw [Qav];simpa [Qay,Qbu,Z0e hB']using k3
    · exact .ext _ _ (.tup [] [] .nil)
  · rename_i harr;obtain⟨e13,_⟩:=M.pure_some e8;cases e13;obtain⟨cur,k1,k2,k3⟩:=h.write hg hB c1 c2 hel c6 c5 hcells (by intro x;exact absurd x harr);have hrun:=Qkv (P:=C.P) (T:=T) (u:=a.eval y) hti (by omega) k1 (by simpa using k2) (hcells.oneCells c5);refine⟨undef,w.setRow g (cur.toList.take (i*B.esz+off)++(a.eval y).cells.toList++cur.toList.drop (i*B.esz+off+(a.eval y).cells.toList.length)).toArray,ρ,im,.inr ⟨?_,rfl⟩,?_,?_⟩
    · simp [execOp,ho,ex,Instr.storeAt,Instr.sureAddr,hrun]
    · simpa [Qan,Z0e hB]using k3
    · exact .ext _ _ (.tup [] [] .nil)

theorem Qob {tb:Tab} {id:Nat} (hidL:id<LENT) {T:TypeId} {x y:Operand} {k1 k2:IntKind} {n c:Int} {r:PV} {es:List Eff} {l:Acc} (ho:o.op= .makeSlice T x y) (h:Rel' C st a w ρ im)
    (hx:LR w im ρ (.int k1 n) (a.eval x)) (hy:LR w im ρ (.int k2 c) (a.eval y)) (he:Qa6 C.P tb id o.op [.int k1 n,.int k2 c] st.box=some (.done r es,l)):Does C (Qan es st) a w (execOp a.eval o) r:=by
  rw [ho]at he;simp only [Qa6]at he;obtain⟨E,_,_,e1,e2,_⟩:=M.bind_some he;obtain⟨c1,_⟩:=M.ofOpt_some e1;obtain⟨q,_,_,e3,e4,_⟩:=M.bind_some e2;obtain⟨c2,_⟩:=M.ofOpt_some e3;obtain⟨z,_,_,e5,e6,_⟩:=M.bind_some e4;obtain⟨c3,_⟩:=M.ofOpt_some e5;obtain⟨b,_,_,e7,e8,_⟩:=M.bind_some e6;obtain⟨rfl,_⟩:=M.hard_some e7;obtain⟨_,_,_,e9,e10,_⟩:=M.bind_some e8;obtain⟨c4,_⟩:=M.ok_some e9;obtain⟨e11,_⟩:=M.pure_some e10;cases e11;simp only [Bool.and_eq_true,decide_eq_true_eq,beq_iff_eq,Option.isNone_iff_eq_none]at c4;obtain⟨⟨⟨⟨⟨⟨⟨d1,d2⟩,d3⟩,d4⟩,d5⟩,d6⟩,d7⟩,d8⟩:=c4;obtain⟨i,hi,hi1,hi2⟩:=Qbh c2;obtain⟨i',zv,hz1,hz2,hz3⟩:=Qcr c3;rw [hi]at hz1;cases hz1;have hrun:=run_make (P:=C.P) w T E i zv (Qbq c1) hi hz2 k1 k2 n c d5 d6 (by rw [hi2];exact d7) d8;have hrep:=(Qco (w:=w) (im:=im) hz3).cells d3;have hzl:=hrep.length;rw [d2]at hzl;have hzs:zv.cells.size=q.1:=by simpa using hzl.symm
  -- the made cells are the zero's, over and over
  have hmade: ∀m,(madeCells zv.cells (m*q.1)).toList=(List.replicate m zv.cells.toList).flatten:=by
    intro m;apply List.ext_getElem?;intro k;have hget: ∀m k,(List.replicate m zv.cells.toList).flatten[k]? =if k<m*q.1 then zv.cells[k%q.1]? else none:=by
      intro m
      induction m with
      |zero=>intro k;simp
      |succ m ih=>
        intro k;rw [List.replicate_succ,List.flatten_cons];by_cases hk:k<q.1
        · rw [List.getElem?_append_left (by simp;omega),if_pos (by rw [Nat.succ_mul];omega),Nat.mod_eq_of_lt hk,Array.getElem?_toList]
        · rw [List.getElem?_append_right (by simp;omega)];simp only [Array.length_toList,hzs];rw [ih,Nat.succ_mul];have:(k-q.1)%q.1=k%q.1:=by
            conv=>rhs;rw [←Nat.sub_add_cancel (Nat.le_of_not_lt hk),Nat.add_mod_right]
          rw [this];by_cases hk2:k-q.1<m*q.1
          · rw [if_pos hk2,if_pos (by omega)]
          · rw [if_neg hk2,if_neg (by omega)]
    rw [hget];simp only [madeCells,Array.toList_map,List.getElem?_map,Array.getElem?_toList,Array.getElem?_range];by_cases hk:k<m*q.1
    · have hlt:k%q.1<zv.cells.size:=by rw [hzs];exact Nat.mod_lt _ d4
      simp [hk,hzs];rw [hzs]at hlt;simp [hzs,hlt]
    · simp [hk]
  have hsplit:(madeCells zv.cells (c.toNat*i.size))=((List.replicate n.toNat zv.cells.toList).flatten++(List.replicate (c.toNat-n.toNat) zv.cells.toList).flatten).toArray:=by
    apply Array.ext';rw [hi1,hmade];have:c.toNat=n.toNat+(c.toNat-n.toNat):=by omega
    rw [←List.flatten_append,List.replicate_append_replicate,←this]
  have hrepl: ∀m,RepL w im ((List.replicate m z).flatMap PV.cells) (List.replicate m zv.cells.toList).flatten:=by
    intro m
    induction m with
    |zero=>exact .nil
    |succ m ih=>
      rw [List.replicate_succ,List.replicate_succ,List.flatMap_cons,List.flatten_cons];exact hrep.append ih
  have hez: ∀e∈List.replicate n.toNat z,e.cells.length=q.1:=fun e he=>by rw [List.eq_of_mem_replicate he];exact d2
  have hok:=Qdx (vs:=List.replicate n.toNat z) fun e he=>by rw [List.eq_of_mem_replicate he];exact d3
  obtain⟨h1,h2,h3⟩:=h.newBox hidL d1 {els:=List.replicate n.toNat z,esz:=q.1,ety:=E,fro:=0,live:=true,arr:=true} (List.replicate n.toNat zv.cells.toList).flatten (List.replicate (c.toNat-n.toNat) zv.cells.toList).flatten rfl d4 hez rfl
    (hrepl _).toLRL (fun _=>hrepl _) ((hrepl n.toNat).toLRL (ρ:=ρ) |>.oneCells hok)
  rw [hsplit]at hrun;have hfl: ∀m,(List.replicate m zv.cells.toList).flatten.length=m*q.1:=by
    intro m;rw [←(hrepl m).length,Qau (esz:=q.1)]
    · simp
    · intro e he;rw [List.eq_of_mem_replicate he];exact d2
  refine⟨_,_,_,im,.inl (by simp [execOp,ho,hx.int_inv,hy.int_inv,hrun];exact⟨rfl,rfl⟩),by simpa [Qan,Eff.on]using h1,?_⟩;have hmul:c.toNat*q.1=n.toNat*q.1+(c.toNat-n.toNat)*q.1:=by rw [←Nat.add_mul];congr 1;omega
  refine .bs id q.1 0 n.toNat w.heap.size 0 c.toNat _ E (Qao _ _ _) (heap_alloc_new w _) (by simp) ?_ (by omega) (by simp only [maxLen];omega);have e1:=hfl n.toNat;have e2:=hfl (c.toNat-n.toNat);simp only [List.size_toArray,List.length_append,e1,e2];omega

end
end Go.Vl
