/-
  UJ, UK, UL, UL2 (merged for the claim).
-/
import Derived.Test.YtlpiamlgibomhaaGreatUI2
set_option linter.unusedSimpArgs false
set_option linter.unusedVariables false
namespace Go.Vl
open Go.RowKit
theorem Rel'.append_nil {C:Ctx} {st:St} {a:Act} {w:World} {ρ:Rho} {im:Im} (h:Rel' C st a w ρ im) {id:Nat} (hidL:id<LENT) {T ty E:TypeId} {i:TypeInfo} {z:Value} {xs:List PV} {x:Value}
  (ht:C.P.underlying T=some (.slice E)) (hi:C.P.info? E=some i) (hz:i.zero=some z) (hs:0<i.size) (hzs:z.cells.size=i.size)
  (hx:Rep w im (.slc xs) x) (hxz: ∀e∈xs,e.cells.length=i.size) (hokx:(xs.flatMap PV.cells).all PV.okCell=true)
  (hid:st.box id=none) (hby:xs.length*i.bytes≤140737488355328) (h63:xs.length≤maxLen):
  ∃v' w' ρ' im',(Builtin.append_ #[T,T] ty #[.slice none 0 0,x]).run C.P w= .ok v' w'∧
   Rel' C (st.setBox id {els:=xs,esz:=i.size,ety:=E,fro:=0,live:=true,arr:=true}) a w' ρ' im'∧
   LR w' im' ρ' (.bs id i.size 0 xs.length) v':=by
 have hsmall:((xs.length:Nat):Int)≤9223372036854775807:=by simp only [maxLen]at h63;omega
 have same:xs=[]→ ∃ρ' im',Rel' C (st.setBox id {els:=xs,esz:=i.size,ety:=E,fro:=0,live:=true,arr:=true}) a w ρ' im'∧LR w im' ρ' (.bs id i.size 0 xs.length) (.slice none 0 0):=by
  rintro rfl
  obtain⟨h3,h4⟩:=h.addBox ⟨.refl _ _ _,Keeps.refl _ _,fun _ x=> .inl x,fun _ _ x=>x,fun _ _ x=> .inl x⟩ h hidL hid {els:=[],esz:=i.size,ety:=E,fro:=0,live:=true,arr:=true} none (by intro g e;cases e) ⟨rfl,rfl,rfl,hs⟩ (by intro b' g B' e;cases e)
  exact⟨_,_,h3,.bsNil _ _ none (Qa0 _ _ _)⟩
 rcases hx.slc_cells with⟨rfl,cx,rfl⟩|⟨Ax,capx,vsx,szx,rfl,hmx,hzx,hcx,hrx,hcapx⟩
 ·obtain⟨ρ',im',e1,e2⟩:=same rfl
  exact⟨_,w,ρ',im',Qed w T T ty E i ht hi E ht none 0 0 (Nat.le_refl _) cx,e1,e2⟩
 ·have hvl:vsx.length=xs.length*i.size:=by rw [←hrx.length,Qa5 hxz]
  by_cases hm0:xs.length=0
  ·obtain⟨ρ',im',e1,e2⟩:=same (List.length_eq_zero_iff.1 hm0)
   refine⟨_,w,ρ',im',?_,e1,e2⟩
   rw [hm0]
   exact Qg1 w T ty E i ht hi _ _ _
  ·have hrun:=run_append_nil w T ty E i z ht hi hz Ax xs.length capx vsx hvl hcx (by omega) (by omega) (by omega)
   have hcapg:=grownCap_ge w xs.length 0 E
   have hcapm:=grownCap_le_maxLen w xs.length 0 E hmx
   have hzc:(Builtin.zeroCells z.cells (grownCap w xs.length 0 E-xs.length)).size=(grownCap w xs.length 0 E-xs.length)*i.size:=by rw [size_zeroCells,hzs]
   generalize grownCap w xs.length 0 E=cap at*
   generalize Builtin.zeroCells z.cells (cap-xs.length)=zc at*
   have harr:vsx.toArray++zc=(vsx++zc.toList).toArray:=by apply Array.ext';simp
   rw [harr]at hrun
   have hmul:cap*i.size=xs.length*i.size+(cap-xs.length)*i.size:=by rw [←Nat.add_mul];congr 1;omega
   obtain⟨ρ',im',e1,e2⟩:=h.append_new (els:=xs) (E:=E) (us:=vsx) (rest:=zc.toList) hidL hid hs hxz hrx hokx 0 cap (Nat.zero_le _) hcapg (by simp;omega) hcapm
   exact⟨_,_,ρ',im',hrun,e1,e2⟩
section
variable {C:Ctx} {st:St} {a:Act} {w:World} {ρ:Rho} {im:Im} {o:Oper}
theorem Zor {st:St} {b:Nat} {B:Box} (hB:st.box b=some B):(Eff.kill b).on st=st.setBox b {B with els:=[],fro:=0,live:=false}:=by simp [Eff.on,hB]
theorem Qv6 {id:Nat} (hidL:id<LENT) {T T2 ty:TypeId} {s x r:PV} {u ux:Value} {es:List Eff} {l:Acc} {sem:Sem Next} (h:Rel' C st a w ρ im) (hs:LR w im ρ s u) (hx:LR w im ρ x ux)
  (hrun: ∀v w',(Builtin.append_ #[T,T2] ty #[u,ux]).run C.P w= .ok v w'→sem.run C.P w= .ok (.value v) w') (he:Qel C.P id T T2 s x st.box=some (.done r es,l)):Does C (Qat es st) a w sem r:=by
 unfold Qel at he
 obtain⟨_,_,_,e1,e2,_⟩:=M.bind_some he
 obtain⟨c1,_⟩:=M.ok_some e1
 obtain⟨E,_,_,e3,e4,_⟩:=M.bind_some e2
 obtain⟨c2,_⟩:=M.ofOpt_some e3
 obtain⟨q,_,_,e5,e6,_⟩:=M.bind_some e4
 obtain⟨c3,_⟩:=M.ofOpt_some e5
 obtain⟨z,_,_,e7,e8,_⟩:=M.bind_some e6
 obtain⟨c4,_⟩:=M.ofOpt_some e7
 obtain⟨_,_,_,e9,e10,_⟩:=M.bind_some e8
 obtain⟨c5,_⟩:=M.ok_some e9
 obtain⟨n,_,_,e11,e12,_⟩:=M.bind_some e10
 obtain⟨rfl,_⟩:=M.hard_some e11
 obtain⟨_,_,_,e13,e14,_⟩:=M.bind_some e12
 obtain⟨c6,_⟩:=M.ok_some e13
 obtain⟨⟨y,fs⟩,_,_,e15,e16,_⟩:=M.bind_some e14
 simp only [beq_iff_eq,Bool.and_eq_true,decide_eq_true_eq,Option.isNone_iff_eq_none]at c1 c5 c6
 subst c1
 obtain⟨i,hi,hi1,hi2⟩:=Qb0 c3
 obtain⟨i',zv,hz1,hz2,hz3⟩:=Qes c4
 rw [hi]at hz1;cases hz1
 have hT:=Qco c2
 have hzs:zv.cells.size=i.size:=by
  have hr:=Qdv (w:=w) (im:=im) hz3
  rw [hi1,←c5.1]
  have key: ∀zv z,Rep w im z zv→zv.cells.size=z.cells.length:=by
   intro zv z hr
   cases hr with
   |agg cs vs h=>simp [Value.cells,PV.cells,h.length]
   |_=>rfl
  exact key _ _ hr
 obtain⟨im1,g1,r1⟩:=Qjr h (fun _=>rfl) hx e15
 cases y with
 |slc xs=>
  obtain⟨_,_,_,e17,e18,_⟩:=M.bind_some e16
  obtain⟨c7,_⟩:=M.ok_some e17
  simp only [List.all_eq_true,Bool.and_eq_true,beq_iff_eq]at c7
  have hokx:=Qfa fun e he=>(c7 e he).2
  cases s with
  |nilS=>
   obtain⟨_,_,_,e19,e20,_⟩:=M.bind_some e18
   obtain⟨c8,_⟩:=M.ok_some e19
   obtain⟨e21,_⟩:=M.pure_some e20
   cases e21
   simp only [Bool.and_eq_true,decide_eq_true_eq]at c8
   have hu:=hs.nilS_inv
   subst hu
   obtain⟨v',w',ρ',im',k1,k2,k3⟩:=g1.rel.append_nil hidL (ty:=ty) hT hi hz2 (by omega) hzs r1 (fun e he=>by rw [hi1];exact(c7 e he).1) hokx (g1.no id c6) (by rw [hi2];exact c8.1) c8.2
   rw [hi1]at k2 k3
   refine⟨v',w',ρ',im',.inl (hrun _ _ k1),?_,k3⟩
   rw [Qbh]
   simpa [Qbc,Qc9,Eff.on]using k2
  |bs b esz off len=>
   obtain⟨Bo,_,_,e19,e20,_⟩:=M.bind_some e18
   obtain⟨rfl,_⟩:=M.hard_some e19
   obtain⟨B,_,_,e21,e22,_⟩:=M.bind_some e20
   obtain⟨hB,_⟩:=M.ofOpt_some e21
   obtain⟨_,_,_,e23,e24,_⟩:=M.bind_some e22
   obtain⟨c8,_⟩:=M.ok_some e23
   obtain⟨e25,_⟩:=M.pure_some e24
   cases e25
   simp only [Bool.and_eq_true,decide_eq_true_eq,beq_iff_eq,List.all_eq_true,bne_iff_ne]at c8
   obtain⟨⟨⟨⟨⟨⟨⟨⟨⟨⟨d0,d1⟩,d2⟩,d3⟩,d4⟩,d5⟩,d6⟩,d7⟩,d8⟩,d9⟩,d10⟩:=c8
   subst d3;subst d4;subst d7
   have hB':(Qat fs st).box b=some B:=by rw [Qd8 _ _ d0];exact hB
   have hs':LR w im1 ρ (.bs b B.esz 0 B.els.length) u:=by
    rw [d6,←d5];exact hs.mono (Keeps.refl _ _) g1.im fun _ _ x=>x
   obtain⟨v',w',ρ',im',k1,k2,k3⟩:=g1.rel.append (ty:=ty) hT hi hz2 (by omega) hzs hB' d1 d2 hs' r1 (fun e he=>by rw [d6];exact(c7 e he).1) d8 hokx hidL (g1.no id c6) (by rw [hi2];exact d9) d10
   refine⟨v',w',ρ',im',.inl (hrun _ _ k1),?_,?_⟩
   ·rw [Qbh,Qbc,Qbc,Qc9,Zor hB']
    simpa [Eff.on,d6]using k2
   ·rw [d6]at k3;exact k3
  |_=>cases e18
 |_=>cases e16
theorem Zha {x:Operand} {t:TypeId} {ts:Array TypeId} {v r:PV} (ho:o.op= .call ⟨.builtin .len, #[x],ts⟩) (ht:ts[0]? =some t) (hx:LR w im ρ v (a.eval x)) (hr:Qbd C.P t v=some r):Calm C.P w im ρ a o r:=by
 have go: ∀n,(Builtin.len_ ts o.type #[a.eval x]).run C.P w= .ok (.int .i64 n) w→Calm C.P w im ρ a o (.int .i64 n):=by
  intro n hn
  exact⟨_,by simp [execOp,ho,resolve,invoke,builtin,hn],.ext _ _ (.int _ _)⟩
 have arr: ∀(q:Option PV),(match C.P.underlying t with|some (.array n _)=>some (PV.int .i64 n)|_=>none)=some r→Calm C.P w im ρ a o r:=by
  intro _ hh
  split at hh
  ·rename_i n e hT
   cases hh
   exact go n (by simp [Builtin.len_,ht,run_underlying hT,goInt])
  ·cases hh
 unfold Qbd at hr
 split at hr
 ·rename_i s
  split at hr
  ·rename_i hT;cases hr
   exact go _ (by simp [Builtin.len_,ht,run_underlying hT,goInt,hx.str_inv])
  ·cases hr
 ·split at hr
  ·rename_i e hT;cases hr
   exact go _ (by simp [Builtin.len_,ht,run_underlying hT,goInt,hx.nilS_inv])
  ·cases hr
 ·rename_i es
  split at hr
  ·rename_i e hT;cases hr
   refine go _ ?_
   have hs:=hx.slc_inv
   generalize a.eval x=u at*
   cases hs with
   |slcNil c hm=>simp [Builtin.len_,ht,run_underlying hT,goInt]
   |slcE p cap hm=>simp [Builtin.len_,ht,run_underlying hT,goInt]
   |slc _ g off len cap sz vs hn hm hz hii hc hrl hcap=>simp [Builtin.len_,ht,run_underlying hT,goInt,hn]
  ·cases hr
 ·rename_i b esz off len
  split at hr
  ·rename_i e hT;cases hr
   refine go _ ?_
   rcases hx.bs_inv with⟨_,⟨x0,hu⟩,_,hl⟩|⟨g,cap,cur,e',hg,hu,_⟩<;>simp [Builtin.len_,ht,run_underlying hT,goInt,hu, *]
  ·cases hr
 ·exact arr none hr
theorem Qob {mx:Bool} {args:Array Operand} {ts:Array TypeId} {x r:PV} {xs:List PV} (ho:o.op= .call ⟨.builtin (if mx then .max else .min),args,ts⟩)
  (hv:LRL w im ρ (x::xs) (args.toList.map a.eval)) (hr:Qh5 mx x xs=some r):Calm C.P w im ρ a o r:=by
 obtain⟨u,us,hu,h1,h2⟩:=hv.cons_inv
 obtain⟨u',k1,k2⟩:=Qpy (P:=C.P) (w:=w) mx xs us x r u h2 h1 hr
 refine⟨u',?_,k2⟩
 cases mx
 ·simp only [Bool.false_eq_true,if_false]at ho k1
  simp only [execOp,ho,resolve,invoke,builtin,Builtin.min_,Sem.run_bind,Sem.run_pure,Result.andThen_ok,Array.toList_map,hu]
  simp [k1]
 ·simp only [if_true]at ho k1
  simp only [execOp,ho,resolve,invoke,builtin,Builtin.max_,Sem.run_bind,Sem.run_pure,Result.andThen_ok,Array.toList_map,hu]
  simp [k1]
theorem Q88 {len:Nat} {vl:PV} {hi:Option PV} {r:Nat×Nat} (hn: ∀k i,vl≠ .int k i):Qcy len (some vl) hi≠some r:=by
 intro e
 simp only [Qcy]at e
 cases vl<;>first|exact absurd rfl (hn _ _)|(split at e<;>first|cases e|(rename_i q;cases q))
theorem Q89 {len:Nat} {vh:PV} {lo:Option PV} {r:Nat×Nat} (hn: ∀k i,vh≠ .int k i):Qcy len lo (some vh)≠some r:=by
 intro e
 simp only [Qcy]at e
 cases vh<;>first|exact absurd rfl (hn _ _)|(split at e<;>first|cases e|(rename_i q _;cases q))
theorem Qp2 {T:TypeId} {v:PV} {lo hi:Option PV} {x:Out×Acc} {bx:Bx} (hb: ∀len r,Qcy len lo hi≠some r) (he:Qcp C.P T v lo hi bx=some x):False:=by
 obtain⟨x,l⟩:=x
 cases v with
 |str s=>
  obtain⟨_,_,_,e1,e2,_⟩:=M.bind_some he
  obtain⟨q,_,_,e3,e4,_⟩:=M.bind_some e2
  exact hb _ _ (M.ofOpt_some e3).1
 |nilS=>
  obtain⟨_,_,_,e1,e2,_⟩:=M.bind_some he
  obtain⟨_,_,_,e3,e4,_⟩:=M.bind_some e2
  obtain⟨q,_,_,e5,e6,_⟩:=M.bind_some e4
  exact hb _ _ (M.ofOpt_some e5).1
 |slc es=>
  obtain⟨_,_,_,e1,e2,_⟩:=M.bind_some he
  obtain⟨_,_,_,e3,e4,_⟩:=M.bind_some e2
  obtain⟨q,_,_,e5,e6,_⟩:=M.bind_some e4
  exact hb _ _ (M.ofOpt_some e5).1
 |bs b esz off len=>
  obtain⟨_,_,_,e1,e2,_⟩:=M.bind_some he
  obtain⟨_,_,_,e3,e4,_⟩:=M.bind_some e2
  obtain⟨_,_,_,e5,e6,_⟩:=M.bind_some e4
  obtain⟨q,_,_,e7,e8,_⟩:=M.bind_some e6
  exact hb _ _ (M.ofOpt_some e7).1
 |_=>cases he
theorem Qju {T:TypeId} {v vl:PV} {hi:Option PV} {x:Out×Acc} {bx:Bx} (hn: ∀k i,vl≠ .int k i) (he:Qcp C.P T v (some vl) hi bx=some x):False:=Qp2 (fun _ _=>Q88 hn) he
theorem Qjv {T:TypeId} {v vh:PV} {lo:Option PV} {x:Out×Acc} {bx:Bx} (hn: ∀k i,vh≠ .int k i) (he:Qcp C.P T v lo (some vh) bx=some x):False:=Qp2 (fun _ _=>Q89 hn) he
theorem Qyl {args:Array Operand} {us:List Value} {u:Value} (h:args.toList.map a.eval=[u]): ∃x,args= #[x]∧a.eval x=u:=by
 have hl:args.toList.length=1:=by simpa using congrArg List.length h
 match hL:args.toList,hl with
 | [x],_=>
  rw [hL]at h
  exact⟨x,by apply Array.ext';simpa using hL,by simpa using h⟩
theorem Qym {args:Array Operand} {u u2:Value} (h:args.toList.map a.eval=[u,u2]): ∃x y,args= #[x,y]∧a.eval x=u∧a.eval y=u2:=by
 have hl:args.toList.length=2:=by simpa using congrArg List.length h
 match hL:args.toList,hl with
 | [x,y],_=>
  rw [hL]at h
  simp at h
  exact⟨x,y,by apply Array.ext';simpa using hL,h.1,h.2⟩
theorem Qbu {α:Type} {x:Option α} {f:α→PV} {r:PV} {es:List Eff} {l:Acc} {bx:Bx} (he:(M.ofOpt x).bind (fun v=>M.pure (Out.done (f v) [])) bx=some (.done r es,l)): ∃v,x=some v∧r=f v∧es=[]:=by
 obtain⟨v,_,_,e1,e2,_⟩:=M.bind_some he
 obtain⟨c,_⟩:=M.ofOpt_some e1
 obtain⟨e3,_⟩:=M.pure_some e2
 cases e3
 exact⟨v,c,rfl,rfl⟩
theorem Zos {tb:Tab} {id:Nat} (hidL:id<LENT) {vs:List PV} {r:PV} {es:List Eff} {l:Acc} (h:Rel' C st a w ρ im) (hv:LRL w im ρ vs (o.op.operands.toList.map a.eval))
  (he:Qa7 C.P tb id o.op vs st.box=some (.done r es,l)):Does C (Qat es st) a w (execOp a.eval o) r:=by
 have he0:=he
 generalize hm:Qa7 C.P tb id o.op vs=m at he
 unfold Qa7 at hm
 split at hm<;>subst hm
 case h_1=>
  rename_i x v ho
  obtain⟨e,_⟩:=M.pure_some he;cases e
  rw [ho]at hv
  obtain⟨u,hu,h1⟩:=LRL.one_inv hv
  simp [Op.operands]at hu;subst hu
  exact Qbf h (Q8z ho h1)
 case h_2=>
  rename_i x v ho
  obtain⟨e,_⟩:=M.pure_some he;cases e
  rw [ho]at hv
  obtain⟨u,hu,h1⟩:=LRL.one_inv hv
  simp [Op.operands]at hu;subst hu
  exact Qbf h (Qv3 ho h1)
 case h_3=>
  rename_i x v ho
  rw [ho]at hv
  obtain⟨u,hu,h1⟩:=LRL.one_inv hv
  simp [Op.operands]at hu;subst hu
  cases v with
  |bp b e i off=>obtain⟨e,_⟩:=M.pure_some he;cases e;exact Qbf h (Qlp ho h1)
  |rp cs=>obtain⟨e,_⟩:=M.pure_some he;cases e;exact Qbf h (Qlq ho h1)
  |fn f p q=>obtain⟨e,_⟩:=M.pure_some he;cases e;exact Qbf h (Qlr ho h1)
  |_=>cases he
 case h_4=>
  rename_i c x y b v v' ho
  obtain⟨e,_⟩:=M.pure_some he;cases e
  rw [ho]at hv
  obtain⟨u,us,hu,h1,h2⟩:=hv.cons_inv
  obtain⟨u2,u3,hu2,h3,h4⟩:=h2.two_inv
  simp [Op.operands]at hu
  obtain⟨rfl,rfl⟩:=hu
  simp at hu2
  obtain⟨rfl,rfl⟩:=hu2
  exact Qbf h (Q80 ho h1 h3 h4)
 case h_5=>
  rename_i T ho
  obtain⟨z,_,_,e1,e2,_⟩:=M.bind_some he
  obtain⟨c1,_⟩:=M.ofOpt_some e1
  exact Q1d hidL ho h c1 e2
 case h_6=>
  rename_i T x v ho
  rw [ho]at hv
  obtain⟨u,hu,h1⟩:=LRL.one_inv hv
  simp [Op.operands]at hu;subst hu
  exact Zg9 hidL ho h h1 he
 case h_7=>
  rename_i T parts ho
  obtain⟨_,_,_,e1,e2,_⟩:=M.bind_some he
  obtain⟨c1,_⟩:=M.ok_some e1
  obtain⟨z,_,_,e3,e4,_⟩:=M.bind_some e2
  obtain⟨c2,_⟩:=M.ofOpt_some e3
  obtain⟨cs,c3,rfl,rfl⟩:=Qbu (f:=fun cs=> .agg cs) e4
  exact Q1f ho h hv c1 c2 c3
 case h_8=>
  rename_i T n parts ho
  exact Qn9 hidL ho h hv he0
 case h_9=>
  rename_i T x b esz i off ho
  rw [ho]at hv
  obtain⟨u,hu,h1⟩:=LRL.one_inv hv
  simp [Op.operands]at hu;subst hu
  obtain⟨S,_,_,e1,e2,_⟩:=M.bind_some he
  obtain⟨B,hB,rfl,_⟩:=M.soft_some e1
  obtain⟨_,_,_,e3,e4,_⟩:=M.bind_some e2
  obtain⟨c1,_⟩:=M.ok_some e3
  obtain⟨e,_,_,e5,e6,_⟩:=M.bind_some e4
  obtain⟨c2,_⟩:=M.ofOpt_some e5
  obtain⟨v,c3,rfl,rfl⟩:=Qbu (f:=fun v=>v) e6
  exact Qte ho h h1 hB (by simpa [Box.soft]using c1) c2 c3
 case h_10=>
  rename_i T x cs ho
  rw [ho]at hv
  obtain⟨u,hu,h1⟩:=LRL.one_inv hv
  simp [Op.operands]at hu;subst hu
  obtain⟨v,c3,rfl,rfl⟩:=Qbu (f:=fun v=>v) he
  exact Qtf ho h h1 c3
 case h_11=>
  rename_i T x y b esz i off v ho
  have hv':=hv
  rw [ho]at hv'
  obtain⟨u,u2,hu,h1,h2⟩:=LRL.two_inv hv'
  simp [Op.operands]at hu
  obtain⟨rfl,rfl⟩:=hu
  exact Q1g ho h h1 h2 he0
 case h_12=>
  rename_i op t x y ty v v' ho
  rw [ho]at hv
  obtain⟨u,u2,hu,h1,h2⟩:=LRL.two_inv hv
  simp [Op.operands]at hu
  obtain⟨rfl,rfl⟩:=hu
  obtain⟨v,c3,rfl,rfl⟩:=Qbu (f:=fun v=>v) he
  exact Qbf h (Zg7 ho h1 h2 c3)
 case h_13=>
  rename_i op t x v ho
  rw [ho]at hv
  obtain⟨u,hu,h1⟩:=LRL.one_inv hv
  simp [Op.operands]at hu;subst hu
  obtain⟨v,c3,rfl,rfl⟩:=Qbu (f:=fun v=>v) he
  exact Qbf h (Zoq ho h1 c3)
 case h_14=>
  rename_i s d x v ho
  rw [ho]at hv
  obtain⟨u,hu,h1⟩:=LRL.one_inv hv
  simp [Op.operands]at hu;subst hu
  exact Q87 ho h h1 he
 case h_15=>
  rename_i f first cap ho
  obtain⟨e,_⟩:=M.pure_some he;cases e
  rw [ho]at hv
  exact Qbf h (Qrl ho hv)
 case h_16=>
  rename_i T x y k1 n k2 c ho
  have hv':=hv
  rw [ho]at hv'
  obtain⟨u,u2,hu,h1,h2⟩:=LRL.two_inv hv'
  simp [Op.operands]at hu
  obtain⟨rfl,rfl⟩:=hu
  exact Qot hidL ho h h1 h2 he0
 case h_17=>
  rename_i T x v ho
  rw [ho]at hv
  obtain⟨u,hu,h1⟩:=LRL.one_inv hv
  simp [Op.operands]at hu;subst hu
  exact Qhy (vl:=none) (vh:=none) h h1 (.inl ⟨rfl,rfl⟩) (.inl ⟨rfl,rfl⟩) (fun u hu=>by simp [execOp,ho,hu]) he
 case h_18=>
  rename_i T x lo v vl ho
  rw [ho]at hv
  obtain⟨u,u2,hu,h1,h2⟩:=LRL.two_inv hv
  simp [Op.operands]at hu
  obtain⟨rfl,rfl⟩:=hu
  cases vl with
  |int k i=>exact Qhy (vl:=some (a.eval lo)) (vh:=none) h h1 (.inr ⟨k,i,rfl,by rw [h2.int_inv]⟩) (.inl ⟨rfl,rfl⟩) (fun u hu=>by simp [execOp,ho,hu]) he
  |_=>exact(Qju (by intro k i e;cases e) he).elim
 case h_19=>
  rename_i T x hi v vh ho
  rw [ho]at hv
  obtain⟨u,u2,hu,h1,h2⟩:=LRL.two_inv hv
  simp [Op.operands]at hu
  obtain⟨rfl,rfl⟩:=hu
  cases vh with
  |int k i=>exact Qhy (vl:=none) (vh:=some (a.eval hi)) h h1 (.inl ⟨rfl,rfl⟩) (.inr ⟨k,i,rfl,by rw [h2.int_inv]⟩) (fun u hu=>by simp [execOp,ho,hu]) he
  |_=>exact(Qjv (by intro k i e;cases e) he).elim
 case h_20=>
  rename_i T x lo hi v vl vh ho
  rw [ho]at hv
  obtain⟨u,us,hu,h1,h2⟩:=hv.cons_inv
  obtain⟨u2,u3,hu2,h3,h4⟩:=h2.two_inv
  simp [Op.operands]at hu
  obtain⟨rfl,rfl⟩:=hu
  simp at hu2
  obtain⟨rfl,rfl⟩:=hu2
  cases vh with
  |int k i=>
   cases vl with
   |int k' i'=>exact Qhy (vl:=some (a.eval lo)) (vh:=some (a.eval hi)) h h1 (.inr ⟨k',i',rfl,by rw [h3.int_inv]⟩) (.inr ⟨k,i,rfl,by rw [h4.int_inv]⟩) (fun u hu=>by simp [execOp,ho,hu]) he
   |_=>exact(Qju (by intro k i e;cases e) he).elim
  |_=>exact(Qjv (by intro k i e;cases e) he).elim
 case h_21=>
  rename_i T x f b esz i off ho
  rw [ho]at hv
  obtain⟨u,hu,h1⟩:=LRL.one_inv hv
  simp [Op.operands]at hu;subst hu
  obtain⟨q,c3,rfl,rfl⟩:=Qbu (f:=fun q:Nat×TypeId×Nat=> .bp b esz i (off+q.1)) he
  exact Qbf h (Qkk ho h1 c3)
 case h_22=>
  rename_i T x f cs ho
  rw [ho]at hv
  obtain⟨u,hu,h1⟩:=LRL.one_inv hv
  simp [Op.operands]at hu;subst hu
  obtain⟨q,c3,rfl,rfl⟩:=Qbu (f:=fun q:Nat×TypeId×Nat=> .rp (cs.drop q.1)) he
  exact Qbf h (Qkl ho h1 c3)
 case h_23=>
  rename_i T x f cs ho
  rw [ho]at hv
  obtain⟨u,hu,h1⟩:=LRL.one_inv hv
  simp [Op.operands]at hu;subst hu
  obtain⟨q,_,_,e1,e2,_⟩:=M.bind_some he
  obtain⟨c1,_⟩:=M.ofOpt_some e1
  obtain⟨v,c3,rfl,rfl⟩:=Qbu (f:=fun v=>v) e2
  exact Qbf h (Q1b ho h1 c1 c3)
 case h_24=>
  rename_i T x y v k i ho
  rw [ho]at hv
  obtain⟨u,u2,hu,h1,h2⟩:=LRL.two_inv hv
  simp [Op.operands]at hu
  obtain⟨rfl,rfl⟩:=hu
  cases v with
  |bp b esz kk off=>
   obtain⟨q,_,_,e1,e2,_⟩:=M.bind_some he
   obtain⟨c1,_⟩:=M.ofOpt_some e1
   obtain⟨s,_,_,e3,e4,_⟩:=M.bind_some e2
   obtain⟨c2,_⟩:=M.ofOpt_some e3
   obtain⟨_,_,_,e5,e6,_⟩:=M.bind_some e4
   obtain⟨c3,_⟩:=M.ok_some e5
   obtain⟨e7,_⟩:=M.pure_some e6
   cases e7
   simp only [Bool.and_eq_true,decide_eq_true_eq]at c3
   exact Qbf h (Qkm ho h1 h2 c1 c2 c3.1.1 c3.1.2)
  |rp cs=>
   obtain⟨q,_,_,e1,e2,_⟩:=M.bind_some he
   obtain⟨c1,_⟩:=M.ofOpt_some e1
   obtain⟨s,_,_,e3,e4,_⟩:=M.bind_some e2
   obtain⟨c2,_⟩:=M.ofOpt_some e3
   obtain⟨_,_,_,e5,e6,_⟩:=M.bind_some e4
   obtain⟨c3,_⟩:=M.ok_some e5
   obtain⟨e7,_⟩:=M.pure_some e6
   cases e7
   simp only [Bool.and_eq_true,decide_eq_true_eq]at c3
   exact Qbf h (Qkn ho h1 h2 c1 c2 c3.1.1 c3.1.2)
  |bs b esz off len=>
   obtain⟨q,_,_,e1,e2,_⟩:=M.bind_some he
   obtain⟨c1,_⟩:=M.ofOpt_some e1
   obtain⟨s,_,_,e3,e4,_⟩:=M.bind_some e2
   obtain⟨c2,_⟩:=M.ofOpt_some e3
   obtain⟨_,_,_,e5,e6,_⟩:=M.bind_some e4
   obtain⟨c3,_⟩:=M.ok_some e5
   obtain⟨e7,_⟩:=M.pure_some e6
   cases e7
   simp only [Bool.and_eq_true,decide_eq_true_eq,beq_iff_eq]at c3
   exact Qbf h (Qko ho h1 h2 c1 c2 c3.1.1 c3.1.2 c3.2)
  |slc es=>
   obtain⟨q,_,_,e1,e2,_⟩:=M.bind_some he
   obtain⟨c1,_⟩:=M.ofOpt_some e1
   obtain⟨s,_,_,e3,e4,_⟩:=M.bind_some e2
   obtain⟨c2,_⟩:=M.ofOpt_some e3
   obtain⟨_,_,_,e5,e6,_⟩:=M.bind_some e4
   obtain⟨c3,_⟩:=M.ok_some e5
   obtain⟨el,_,_,e7,e8,_⟩:=M.bind_some e6
   obtain⟨c4,_⟩:=M.ofOpt_some e7
   obtain⟨_,_,_,e9,e10,_⟩:=M.bind_some e8
   obtain⟨c5,_⟩:=M.ok_some e9
   obtain⟨e11,_⟩:=M.pure_some e10
   cases e11
   exact Qbf h (Qjo ho h1 h2 c1 c2 (of_decide_eq_true c3) c4 (by simpa using c5))
  |_=>cases he
 case h_25=>
  rename_i T x y v k i ho
  rw [ho]at hv
  obtain⟨u,u2,hu,h1,h2⟩:=LRL.two_inv hv
  simp [Op.operands]at hu
  obtain⟨rfl,rfl⟩:=hu
  cases v with
  |agg cs=>
   obtain⟨q,_,_,e1,e2,_⟩:=M.bind_some he
   obtain⟨c1,_⟩:=M.ofOpt_some e1
   obtain⟨s,_,_,e3,e4,_⟩:=M.bind_some e2
   obtain⟨c2,_⟩:=M.ofOpt_some e3
   obtain⟨_,_,_,e5,e6,_⟩:=M.bind_some e4
   obtain⟨c3,_⟩:=M.ok_some e5
   obtain⟨v,c4,rfl,rfl⟩:=Qbu (f:=fun v=>v) e6
   simp only [Bool.and_eq_true,decide_eq_true_eq]at c3
   exact Qbf h (Qor ho h1 h2 c1 c2 c3.1 c3.2 c4)
  |str s=>
   obtain⟨_,_,_,e5,e6,_⟩:=M.bind_some he
   obtain⟨c3,_⟩:=M.ok_some e5
   obtain⟨c,c4,rfl,rfl⟩:=Qbu (f:=fun c:UInt8=> .int .u8 c.toNat) e6
   split at c3
   ·rename_i hT;exact Qbf h (Qos ho h1 h2 hT (of_decide_eq_true c3) c4)
   ·cases c3
  |_=>cases he
 case h_26=>
  rename_i x i vs ho
  rw [ho]at hv
  obtain⟨u,hu,h1⟩:=LRL.one_inv hv
  simp [Op.operands]at hu;subst hu
  obtain⟨v,c3,rfl,rfl⟩:=Qbu (f:=fun v=>v) he
  exact Qbf h (Qtc ho h1 c3)
 case h_27=>
  rename_i args ts v ho
  rw [ho]at hv
  obtain⟨u,hu,h1⟩:=LRL.one_inv hv
  simp only [Op.operands,Call.operands,Array.empty_append]at hu
  obtain⟨x,rfl,rfl⟩:=Qyl (us:=[]) hu
  obtain⟨t,_,_,e1,e2,_⟩:=M.bind_some he
  obtain⟨c1,_⟩:=M.ofOpt_some e1
  obtain⟨v,c3,rfl,rfl⟩:=Qbu (f:=fun v=>v) e2
  exact Qbf h (Zha ho c1 h1 c3)
 case h_28=>
  rename_i args ts s x ho
  rw [ho]at hv
  obtain⟨u,u2,hu,h1,h2⟩:=LRL.two_inv hv
  simp only [Op.operands,Call.operands,Array.empty_append]at hu
  obtain⟨y,y2,rfl,rfl,rfl⟩:=Qym hu
  obtain⟨t,_,_,e1,e2,_⟩:=M.bind_some he
  obtain⟨c1,_⟩:=M.ofOpt_some e1
  obtain⟨t2,_,_,e3,e4,_⟩:=M.bind_some e2
  obtain⟨c2,_⟩:=M.ofOpt_some e3
  obtain⟨_,_,_,e5,e6,_⟩:=M.bind_some e4
  obtain⟨c3,_⟩:=M.ok_some e5
  simp only [beq_iff_eq]at c3
  have hts:ts= #[t,t2]:=by
   apply Array.ext_getElem?
   intro k
   match k with
   |0=>simpa using c1
   |1=>simpa using c2
   |k+2=>rw [Array.getElem?_eq_none (by omega),Array.getElem?_eq_none (by simp)]
  subst hts
  exact Qv6 hidL (ty:=o.type) h h1 h2 (fun v w' hr=>by simp [execOp,ho,resolve,invoke,builtin,hr]) e6
 case h_29=>
  rename_i args ts x xs ho
  rw [ho]at hv
  obtain⟨v,c3,rfl,rfl⟩:=Qbu (f:=fun v=>v) he
  exact Qbf h (Qob (mx:=true) ho (by simpa [Op.operands,Call.operands]using hv) c3)
 case h_30=>
  rename_i args ts x xs ho
  rw [ho]at hv
  obtain⟨v,c3,rfl,rfl⟩:=Qbu (f:=fun v=>v) he
  exact Qbf h (Qob (mx:=false) ho (by simpa [Op.operands,Call.operands]using hv) c3)
 case h_31=>
  clear he0
  revert he
  cases lkp tb id with
  |none=>
   intro he
   obtain⟨_,_,_,e1,e2,_⟩:=M.bind_some he
   obtain⟨_,_,_,e3,e4,_⟩:=M.bind_some e2
   obtain⟨_,_,_,e5,e6,_⟩:=M.bind_some e4
   obtain⟨e7,_⟩:=M.pure_some e6
   cases e7
  |some p=>
   intro he
   obtain⟨_,_,_,e1,e2,_⟩:=M.bind_some he
   obtain⟨_,_,_,e3,e4,_⟩:=M.bind_some e2
   obtain⟨_,_,_,e5,e6,_⟩:=M.bind_some e4
   obtain⟨_,_,_,e7,e8,_⟩:=M.bind_some e6
   obtain⟨e9,_⟩:=M.pure_some e8
   cases e9
 case h_32=>
  obtain⟨_,_,_,e1,e2,_⟩:=M.bind_some he
  obtain⟨_,_,_,e3,e4,_⟩:=M.bind_some e2
  obtain⟨e7,_⟩:=M.pure_some e4
  cases e7
 case h_33=>
  rename_i args ts d x ho
  rw [ho]at hv
  obtain⟨u,u2,hu,h1,h2⟩:=LRL.two_inv hv
  simp only [Op.operands,Call.operands,Array.empty_append]at hu
  obtain⟨y,y2,rfl,rfl,rfl⟩:=Qym hu
  obtain⟨t,_,_,e1,e2,_⟩:=M.bind_some he
  obtain⟨c1,_⟩:=M.ofOpt_some e1
  exact Q86 (ty:=o.type) h h1 h2 c1 (fun v w' hr=>by simp [execOp,ho,resolve,invoke,builtin,hr]) e2
 case h_34=>
  rename_i args ts d ho
  rw [ho]at hv
  obtain⟨u,hu,h1⟩:=LRL.one_inv hv
  simp only [Op.operands,Call.operands,Array.empty_append]at hu
  obtain⟨x,rfl,rfl⟩:=Qyl (us:=[]) hu
  obtain⟨t,_,_,e1,e2,_⟩:=M.bind_some he
  obtain⟨c1,_⟩:=M.ofOpt_some e1
  exact Q1h (ty:=o.type) h h1 c1 (fun w' hr=>by simp [execOp,ho,resolve,invoke,builtin,hr]) e2
 case h_35=>cases he
end
end Go.Vl

namespace Go.Vl
open Go.RowKit
def callable (P:Program) (f:FuncId):Bool:=match P.funcs[f]? with
 |some fn=>fn.body.isSome&& !(fn.name== "runtime.NumGoroutine")
 |none=>false
def Zhb (im:Im) (w w':World):Im:=fun g j=>im g j∨(w.heap.size≤g∧ ∃u,w'.cell? ⟨g,j,none⟩=some u)
def Qv7:PV→Bool
 | .bool _| .int _ _| .str _| .nilS| .nilF| .nilI=>true
 |_=>false
def Q9a:PV→Bool
 | .agg cs=>cs.all Qv7
 |v=>Qv7 v
def Qgh:PV→Bool
 | .tup vs=>vs.all Q9a
 |v=>Q9a v
def Q9b (P:Program) (f:FuncId) (args:List PV) (r:PV):Prop:=
 callable P f=true∧ ∀(w:World) (im:Im) (us:List Value) (F:Nat),F≤w.heap.size→Laid P F w→RepL w im args us→(∀g j,im g j→ ∃u,w.cell? ⟨g,j,none⟩=some u)→
  Calls P f us.toArray w fun e w'=> ∃v,e= .returned v∧Below w.heap.size w w'∧Rep w' (Zhb im w w') r v
def Qaf (P:Program) (f:FuncId) (args:List PV) (r:PV):Prop:=
 Q9b P f args r∨(callable P f=false∧Qgh r=true∧ ∀(w:World) (im:Im) (us:List Value),RepL w im args us→ ∃v,(callFunc f us.toArray).run P w= .ok (.value v) w∧Rep w im r v)
structure Boxes (own:Nat→Prop) (w:World) (im:Im) (ρ:Rho) (bx:Bx):Prop where
 rho: ∀b,ρ b=none↔bx b=none
 box: ∀b x B,ρ b=some x→bx b=some B→Qff own w im ρ B x
 inj: ∀b b' g B B',ρ b=some (some g)→ρ b'=some (some g)→bx b=some B→bx b'=some B'→B.live=true→B'.live=true→b=b'
def Qcx (P:Program) (f:FuncId) (args:List PV) (bxs:List (Nat×Box)) (r:PV) (bxs':List (Nat×Box)):Prop:=
 callable P f=true∧ ∀(w:World) (im:Im) (ρ:Rho) (us:List Value) (F:Nat),F≤w.heap.size→Laid P F w→(∀g,Own ρ g→F≤g)→(∀g j,im g j→ ∃u,w.cell? ⟨g,j,none⟩=some u)→Boxes (Own ρ) w im ρ (lkp bxs)→LRL w im ρ args us→
  Calls P f us.toArray w fun e w'=> ∃v ρ' im',e= .returned v∧Step ρ im w ρ' im' w'∧(∀g j,im' g j→ ∃u,w'.cell? ⟨g,j,none⟩=some u)∧Boxes (Own ρ') w' im' ρ' (lkp bxs')∧
   (∀b x x',ρ b=some x→ρ' b=some x'→x'=x)∧LR w' im' ρ' r v
theorem Qtg {w:World} {im im':Im} {v:PV} {u:Value} (hf:Qv7 v=true) (h:Rep w im v u):Rep w im' v u:=by
 cases h<;>first|(simp [Qv7]at hf;done)|constructor
theorem Qp3 {w:World} {im im':Im}: ∀{vs:List PV} {us:List Value},RepL w im vs us→vs.all Qv7=true→RepL w im' vs us
 |_,_,.nil,_=> .nil
 |_,_,.cons v u vs us h t,hf=>by
  simp only [List.all_cons,Bool.and_eq_true]at hf
  exact .cons _ _ _ _ (Qtg hf.1 h) (Qp3 t hf.2)
theorem Qth {w:World} {im im':Im} {v:PV} {u:Value} (hf:Q9a v=true) (h:Rep w im v u):Rep w im' v u:=by
 cases v with
 |agg cs=>cases h with|agg _ vs h=>exact .agg _ _ (Qp3 h hf)
 |_=>exact Qtg hf h
theorem Qp4 {w:World} {im im':Im}: ∀{vs:List PV} {us:List Value},RepL w im vs us→vs.all Q9a=true→RepL w im' vs us
 |_,_,.nil,_=> .nil
 |_,_,.cons v u vs us h t,hf=>by
  simp only [List.all_cons,Bool.and_eq_true]at hf
  exact .cons _ _ _ _ (Qth hf.1 h) (Qp4 t hf.2)
theorem Qyn {w:World} {im im':Im} {v:PV} {u:Value} (hf:Qgh v=true) (h:Rep w im v u):Rep w im' v u:=by
 cases v with
 |tup cs=>cases h with|tup _ vs h=>exact .tup _ _ (Qp4 h hf)
 |_=>exact Qth hf h
def St.put (st:St) (dst:Option Tmp) (v:PV):St:=match dst with
 |some t=>st.setVar t v
 |none=>st
structure Rec where
 val:PV
 effs:List Eff
 acc:Acc
def Rec.on (r:Rec) (dst:Option Tmp) (st:St):St:=(Qat r.effs st).put dst r.val
def Qjw (ops:Array Oper) (o:Oper):Option (Tmp×Bool):=match o.guard with
 |some (j,want)=>match(ops[j]?).bind (·.dst)with
  |some t=>some (t,want)
  |none=>none
 |none=>none
def Qca (ops:Array Oper) (o:Oper) (st:St):Option Bool:=match o.guard with
 |none=>some true
 |some _=>match Qjw ops o with
  |none=>none
  |some (t,want)=>match st.var t with
   |some (.bool b)=>some (b==want)
   |some (.tup [])=>some false
   |_=>none
def Qce (es:List Eff):Acc:=es.map fun e=>(e.id,e.hard)
inductive OpRun (P:Program) (tb:Tab) (ops:Array Oper) (st:St) (id:Nat) (o:Oper):Rec→Prop
 |skip (h:Qca ops o st=some false):OpRun P tb ops st id o ⟨.tup [],[],[]⟩
 |done (h:Qca ops o st=some true) (vs:List PV) (hv:st.evs o.op.operands.toList=some vs) (v:PV) (es:List Eff) (l:Acc)
   (he:Qa7 P tb id o.op vs st.box=some (.done v es,l)):OpRun P tb ops st id o ⟨v,es,l++Qce es⟩
 |call (h:Qca ops o st=some true) (vs:List PV) (hv:st.evs o.op.operands.toList=some vs) (f:FuncId) (args:List PV) (es:List Eff) (l:Acc) (r:PV)
   (he:Qa7 P tb id o.op vs st.box=some (.call f args es,l)) (hs:Qaf P f args r):OpRun P tb ops st id o ⟨r,if Qgh r then []else es,l++Qce es⟩
 |callB (h:Qca ops o st=some true) (vs:List PV) (hv:st.evs o.op.operands.toList=some vs) (f:FuncId) (args:List PV) (bxs:List (Nat×Box)) (es:List Eff) (θ ν:List (Nat×Nat)) (l:Acc) (r:PV) (bxs':List (Nat×Box))
   (r':PV) (ef:List Eff) (he:Qa7 P tb id o.op vs st.box=some (.callB f args bxs es θ ν,l)) (hs:Qcx P f args bxs r bxs') (hl:land θ ν bxs' r=some (r',ef)):
   OpRun P tb ops st id o ⟨r',(if Qlo r bxs' then []else es)++ef,l++Qce es++Qce ef⟩
 |yield (h:Qca ops o st=some true) (vs:List PV) (hv:st.evs o.op.operands.toList=some vs) (n stop:Nat) (args:List PV) (es:List Eff) (l:Acc)
   (he:Qa7 P tb id o.op vs st.box=some (.yield n stop args es,l)) (hy:yOk st.yl n stop st.out args):OpRun P tb ops st id o ⟨.bool (decide (st.out.length<stop)),es++[.yld args],l++Qce es++[(YID,true)]⟩
section
variable {C:Ctx} {st:St} {a:Act} {w:World} {o:Oper} {ops:Array Oper}
theorem Rel.put {ρ:Rho} {im:Im} (h:Rel' C st a w ρ im) {dst:Option Tmp} (hd: ∀t,dst=some t→t<C.nt) {v:PV} {u:Value} (hv:LR w im ρ v u):Rel C (st.put dst v) (a.put dst u) w:=by
 cases dst with
 |none=>exact⟨ρ,im,h⟩
 |some t=>exact⟨ρ,im,h.setVar (hd t rfl) hv⟩
theorem Qfu {ρ:Rho} {im:Im} (h:Rel' C st a w ρ im) {b:Bool} (hw:Qca ops o st=some b):Region.wanted o (yielded ops a.tmps)=b:=by
 unfold Qca at hw
 unfold Region.wanted
 cases hg:o.guard with
 |none=>rw [hg]at hw;cases hw;rfl
 |some p=>
  obtain⟨j,want⟩:=p
  simp only [hg,Qjw]at hw
  cases hd:(ops[j]?).bind (·.dst)with
  |none=>rw [hd]at hw;cases hw
  |some t=>
   simp only [hd]at hw
   have hget:a.tmps.getD t undef=(a.tmps[t]?).getD undef:=by simp
   split at hw
   ·rename_i b0 hv
    cases hw
    have:=(h.var t _ hv).bool_inv
    rw [hget]at this
    simp only [yielded,hd,Option.bind_some]
    cases ht:a.tmps[t]? with
    |none=>rw [ht]at this;cases this
    |some x=>rw [ht]at this;simp only [Option.getD_some]at this;subst this;cases b0<;>cases want<;>rfl
   ·rename_i hv
    cases hw
    obtain⟨us,hu,hr⟩:=(h.var t _ hv).tup_inv
    cases hr.nil_inv
    rw [hget]at hu
    simp only [yielded,hd,Option.bind_some]
    cases ht:a.tmps[t]? with
    |none=>cases want<;>rfl
    |some x=>rw [ht]at hu;simp only [Option.getD_some]at hu;subst hu;cases want<;>rfl
   ·cases hw
def Plain (m:M Out):Prop:= ∀(bx:Bx) (x:Out) (l:Acc),m bx=some (x,l)→ ∃v es,x= .done v es
theorem Plain.done (v:PV) (es:List Eff):Plain (M.pure (.done v es)):=fun _ _ _ h=>⟨v,es,(M.pure_some h).1⟩
theorem Plain.fail:Plain M.fail:=fun _ _ _ h=>by cases h
theorem Plain.bind {α:Type} {m:M α} {f:α→M Out} (h: ∀a,Plain (f a)):Plain (M.bind m f):=fun bx x l e=>by
 obtain⟨a,_,_,_,e2,_⟩:=M.bind_some e
 exact h a _ _ _ e2
theorem Qti (id:Nat) (T:TypeId) (v:PV):Plain (newVar id T v):=by
 unfold newVar
 repeat (first|exact Plain.done _ _|(refine Plain.bind fun _=> ?_))
theorem Qrn (P:Program) (t:TypeId) (x:PV) (lo hi:Option PV):Plain (Qcp P t x lo hi):=by
 unfold Qcp
 split<;>repeat (first|exact Plain.done _ _|exact Plain.fail|(refine Plain.bind fun _=> ?_)|split)
theorem Qov (P:Program) (id:Nat) (T T2:TypeId) (s x:PV):Plain (Qel P id T T2 s x):=by
 unfold Qel
 repeat (first|exact Plain.done _ _|exact Plain.fail|(refine Plain.bind fun _=> ?_)|split)
theorem Qv8 (P:Program) (s d:TypeId) (x:PV):Plain (Qrk P s d x):=by
 unfold Qrk
 cases Qn0 P s d x with
 |some v=>exact Plain.done _ _
 |none=>
  refine Plain.bind fun _=>Plain.bind fun y=> ?_
  cases y.1<;>first|exact Plain.fail|(refine Plain.bind fun _=> ?_;exact Plain.done _ _)
theorem Qtj (P:Program) (t:TypeId) (d x:PV):Plain (Qjm P t d x):=by
 unfold Qjm
 refine Plain.bind fun _=>Plain.bind fun _=>Plain.bind fun y=> ?_
 cases y.1<;>first|exact Plain.fail|skip
 cases d<;>first|exact Plain.fail|skip
 refine Plain.bind fun _=>Plain.bind fun _=>Plain.bind fun _=>Plain.bind fun _=>Plain.done _ _
theorem Qro (P:Program) (t:TypeId) (d:PV):Plain (Qf8 P t d):=by
 unfold Qf8
 refine Plain.bind fun _=>Plain.bind fun _=>Plain.bind fun y=> ?_
 cases d<;>first|exact Plain.fail|skip
 refine Plain.bind fun _=>Plain.bind fun _=>Plain.bind fun _=>Plain.bind fun _=>Plain.done _ _
inductive CallOf (tb:Tab) (id:Nat) (op:Op) (vs:List PV) (bx:Bx):Out→Prop
 |call (fo:Operand) (as:Array Operand) (ts:Array TypeId) (f:FuncId) (first cap vargs:List PV) (x y z:List PV×List Eff) (l1 l2 l3:Acc) (ho:op= .call ⟨.value fo,as,ts⟩) (hv:vs= .fn f first cap::vargs)
   (h1:Qfq first bx=some (x,l1)) (h2:Qgl vargs bx=some (y,l2)) (h3:Qfq cap bx=some (z,l3)):CallOf tb id op vs bx (.call f (x.1++y.1++z.1) (x.2++y.2++z.2))
 |callB (fo:Operand) (as:Array Operand) (ts:Array TypeId) (f:FuncId) (first cap vargs:List PV) (θ ν:List (Nat×Nat)) (x:Out) (l:Acc) (ho:op= .call ⟨.value fo,as,ts⟩) (hv:vs= .fn f first cap::vargs)
   (hx:Qf7 θ ν f (first++vargs++cap) bx=some (x,l)):CallOf tb id op vs bx x
 |yield (fo:Operand) (as:Array Operand) (ts:Array TypeId) (n stop:Nat) (vargs:List PV) (y:List PV×List Eff) (l1:Acc) (ho:op= .call ⟨.value fo,as,ts⟩) (hv:vs= .yld n stop::vargs)
   (h1:Qgl vargs bx=some (y,l1)):CallOf tb id op vs bx (.yield n stop y.1 y.2)
theorem Qkp {P:Program} {tb:Tab} {id:Nat} {op:Op} {vs:List PV} {bx:Bx} {x:Out} {l:Acc} (he:Qa7 P tb id op vs bx=some (x,l)) (hn: ∀v es,x≠ .done v es):CallOf tb id op vs bx x:=by
 generalize hm:Qa7 P tb id op vs=m at he
 unfold Qa7 at hm
 split at hm<;>subst hm
 case h_31=>
  revert he
  cases lkp tb id with
  |none=>
   intro he
   obtain⟨x,_,_,e1,e2,_⟩:=M.bind_some he
   obtain⟨y,_,_,e3,e4,_⟩:=M.bind_some e2
   obtain⟨z,_,_,e5,e6,_⟩:=M.bind_some e4
   obtain⟨e7,_⟩:=M.pure_some e6
   subst e7
   exact .call _ _ _ _ _ _ _ x y z _ _ _ rfl rfl e1 e3 e5
  |some p=>
   intro he
   exact .callB _ _ _ _ _ _ _ p.1 p.2 x _ rfl rfl he
 case h_32=>
  obtain⟨_,_,_,e1,e2,_⟩:=M.bind_some he
  obtain⟨y,_,_,e3,e4,_⟩:=M.bind_some e2
  obtain⟨e7,_⟩:=M.pure_some e4
  subst e7
  exact .yield _ _ _ _ _ _ y _ rfl rfl e3
 all_goals
  exfalso
  refine(fun(h:Plain _)=>by obtain⟨v,es,e⟩:=h _ _ _ he;exact hn v es e) ?_
  repeat (first|exact Plain.done _ _|exact Plain.fail|exact Qti _ _ _|exact Qrn _ _ _ _ _|exact Qov _ _ _ _ _ _|exact Qv8 _ _ _ _|exact Qtj _ _ _ _|exact Qro _ _ _|(refine Plain.bind fun _=> ?_)|split)
end
end Go.Vl

namespace Go.Vl
def Qem (l:Acc) (bx bx':Bx):Prop:= ∀p∈l,if p.2 then bx p.1=bx' p.1 else(bx p.1).map Box.soft=(bx' p.1).map Box.soft
theorem Qem.append {l l':Acc} {bx bx':Bx} (h:Qem (l++l') bx bx'):Qem l bx bx'∧Qem l' bx bx':=
 ⟨fun p hp=>h p (List.mem_append_left _ hp),fun p hp=>h p (List.mem_append_right _ hp)⟩
def Framed {α:Type} (m:M α):Prop:= ∀(bx bx':Bx) (x:α) (l:Acc),m bx=some (x,l)→Qem l bx bx'→m bx'=some (x,l)
theorem Framed.pure {α:Type} (a:α):Framed (M.pure a):=fun _ _ _ _ h _=>h
theorem Framed.fail {α:Type}:Framed (M.fail:M α):=fun _ _ _ _ h _=>by cases h
theorem Framed.ofOpt {α:Type} (x:Option α):Framed (M.ofOpt x):=fun _ _ _ _ h _=>h
theorem Framed.ok (c:Bool):Framed (M.ok c):=fun _ _ _ _ h _=>h
theorem Framed.soft (b:Nat):Framed (M.soft b):=by
 intro bx bx' x l h ha
 obtain⟨B,hB,rfl,rfl⟩:=M.soft_some h
 have:=ha (b,false) (by simp)
 simp only [Bool.false_eq_true,if_false,hB]at this
 unfold M.soft
 cases hb:bx' b with
 |none=>rw [hb]at this;cases this
 |some B'=>rw [hb]at this;simp at this;simp [this]
theorem Framed.hard (b:Nat):Framed (M.hard b):=by
 intro bx bx' x l h ha
 obtain⟨rfl,rfl⟩:=M.hard_some h
 have:=ha (b,true) (by simp)
 simp only [if_true]at this
 simp [M.hard,this]
theorem Framed.bind {α β:Type} {m:M α} {f:α→M β} (h:Framed m) (k: ∀a,Framed (f a)):Framed (M.bind m f):=by
 intro bx bx' x l e ha
 obtain⟨a,l1,l2,e1,e2,rfl⟩:=M.bind_some e
 obtain⟨a1,a2⟩:=ha.append
 simp [M.bind,h bx bx' a l1 e1 a1,k a bx bx' x l2 e2 a2]
theorem Qe0 (v:PV):Framed (esc0 v):=by
 unfold esc0
 split<;>repeat (first|exact Framed.pure _|exact Framed.fail|exact Framed.soft _|exact Framed.ok _|(refine Framed.bind ?_ fun _=> ?_))
theorem Qf9: ∀vs:List PV,Framed (escL vs)
 | []=>Framed.pure _
 |v::vs=>Framed.bind (Qe0 v) fun _=>Framed.bind (Qf9 vs) fun _=>Framed.pure _
theorem Qoc (v:PV):Framed (escC v):=by
 unfold escC
 split<;>repeat (first|exact Framed.pure _|exact Framed.fail|exact Framed.soft _|exact Framed.ok _|exact Framed.ofOpt _|exact Qf9 _|exact Qe0 _|(refine Framed.bind ?_ fun _=> ?_))
theorem Qg6: ∀vs:List PV,Framed (Qfq vs)
 | []=>Framed.pure _
 |v::vs=>Framed.bind (Qoc v) fun _=>Framed.bind (Qg6 vs) fun _=>Framed.pure _
theorem Qga (v:PV):Framed (esc1 v):=by
 unfold esc1
 split<;>repeat (first|exact Framed.pure _|exact Framed.fail|exact Qf9 _|exact Qg6 _|exact Qoc _|(refine Framed.bind ?_ fun _=> ?_))
theorem Qlb: ∀vs:List PV,Framed (Qgl vs)
 | []=>Framed.pure _
 |v::vs=>Framed.bind (Qga v) fun _=>Framed.bind (Qlb vs) fun _=>Framed.pure _
theorem Qtk (P:Program) (s d:TypeId) (x:PV):Framed (Qrk P s d x):=by
 unfold Qrk
 cases Qn0 P s d x with
 |some v=>exact Framed.pure _
 |none=>
  refine Framed.bind (Framed.ok _) fun _=>Framed.bind (Qe0 _) fun y=> ?_
  cases y.1<;>first|exact Framed.fail|(refine Framed.bind (Framed.ofOpt _) fun _=> ?_;exact Framed.pure _)
theorem Qrp (P:Program) (t:TypeId) (d x:PV):Framed (Qjm P t d x):=by
 unfold Qjm
 refine Framed.bind (Framed.ofOpt _) fun _=>Framed.bind (Framed.ofOpt _) fun _=>Framed.bind (Qe0 _) fun y=> ?_
 cases y.1<;>first|exact Framed.fail|skip
 cases d<;>first|exact Framed.fail|skip
 refine Framed.bind (Framed.hard _) fun _=>Framed.bind (Framed.ofOpt _) fun _=>Framed.bind (Framed.ok _) fun _=>Framed.bind (Framed.ok _) fun _=>Framed.pure _
theorem Qow (P:Program) (t:TypeId) (d:PV):Framed (Qf8 P t d):=by
 unfold Qf8
 refine Framed.bind (Framed.ofOpt _) fun _=>Framed.bind (Framed.ofOpt _) fun _=>Framed.bind (Framed.ofOpt _) fun y=> ?_
 cases d<;>first|exact Framed.fail|skip
 refine Framed.bind (Framed.hard _) fun _=>Framed.bind (Framed.ofOpt _) fun _=>Framed.bind (Framed.ok _) fun _=>Framed.bind (Framed.ok _) fun _=>Framed.pure _
theorem Qtl (θ:List (Nat×Nat)) (v:PV):Framed (Q08 θ v):=by
 unfold Q08
 split
 ·split<;>first|exact Framed.pure _|exact Qga _
 ·split<;>first|exact Framed.pure _|exact Qga _
 ·exact Qga _
theorem Qlc (θ:List (Nat×Nat)): ∀vs:List PV,Framed (Q8x θ vs)
 | []=>Framed.pure _
 |v::vs=>Framed.bind (Qtl θ v) fun _=>Framed.bind (Qlc θ vs) fun _=>Framed.pure _
theorem Qgi: ∀θ:List (Nat×Nat),Framed (Qg2 θ)
 | []=>Framed.pure _
 |_::θ=>Framed.bind (Framed.hard _) fun _=>Framed.bind (Framed.ofOpt _) fun _=>Framed.bind (Framed.ok _) fun _=>Framed.bind (Qgi θ) fun _=>Framed.pure _
theorem Qh8: ∀ν:List (Nat×Nat),Framed (Qnz ν)
 | []=>Framed.pure _
 |_::ν=>Framed.bind (Framed.hard _) fun _=>Framed.bind (Framed.ok _) fun _=>Qh8 ν
theorem Qod (θ ν:List (Nat×Nat)) (f:FuncId) (args:List PV):Framed (Qf7 θ ν f args):=
 Framed.bind (Qlc _ _) fun _=>Framed.bind (Qgi _) fun _=>Framed.bind (Qh8 _) fun _=>Framed.bind (Framed.ok _) fun _=>Framed.pure _
theorem Qrq (id:Nat) (T:TypeId) (v:PV):Framed (newVar id T v):=by
 unfold newVar
 repeat (first|exact Framed.pure _|exact Framed.hard _|exact Framed.ok _|(refine Framed.bind ?_ fun _=> ?_))
theorem Qox (P:Program) (t:TypeId) (x:PV) (lo hi:Option PV):Framed (Qcp P t x lo hi):=by
 unfold Qcp
 split<;>repeat (first|exact Framed.pure _|exact Framed.fail|exact Framed.soft _|exact Framed.ok _|exact Framed.ofOpt _|(refine Framed.bind ?_ fun _=> ?_)|split)
theorem Qoe (P:Program) (id:Nat) (T T2:TypeId) (s x:PV):Framed (Qel P id T T2 s x):=by
 unfold Qel
 repeat (first|exact Framed.pure _|exact Framed.fail|exact Framed.soft _|exact Framed.hard _|exact Framed.ok _|exact Framed.ofOpt _|exact Qe0 _|(refine Framed.bind ?_ fun _=> ?_)|split)
theorem Qg7 (P:Program) (tb:Tab) (id:Nat) (o:Op) (vs:List PV):Framed (Qa7 P tb id o vs):=by
 unfold Qa7
 split<;>repeat (first|exact Framed.pure _|exact Framed.fail|exact Framed.soft _|exact Framed.hard _|exact Framed.ok _|exact Framed.ofOpt _|exact Qf9 _|exact Qlb _|exact Qg6 _|exact Qrq _ _ _|exact Qox _ _ _ _ _|exact Qoe _ _ _ _ _ _|exact Qod _ _ _ _|exact Qtk _ _ _ _|exact Qrp _ _ _ _|exact Qow _ _ _|(refine Framed.bind ?_ fun _=> ?_)|split)
end Go.Vl

namespace Go.Vl
open Go.RowKit

theorem Qc5 {α:Type}: ∀{l:List (Nat×α)} {k:Nat} {v:α},lkp l k=some v→(k,v)∈l
  | [],_,_,h=>by cases h
  |(j,x)::l,k,v,h=>by
    unfold lkp at h
    split at h
    · rename_i e;cases h;simp [e]
    · exact List.mem_cons_of_mem _ (Qc5 h)
theorem Qv9 {α:Type}: ∀{l:List (Nat×α)} {k:Nat} {v:α},(k,v)∈l→ ∃u,lkp l k=some u
  |(j,x)::l,k,v,h=>by
    unfold lkp
    split
    · exact⟨x,rfl⟩
    · rename_i hne
      rcases List.mem_cons.1 h with e|e
      · cases e;exact absurd rfl hne
      · exact Qv9 e
theorem Qkq {α:Type}: ∀(l m:List (Nat×α)) (k:Nat),lkp (l++m) k=match lkp l k with|some v=>some v|none=>lkp m k
  | [],_,_=>rfl
  |(j,x)::l,m,k=>by
    simp only [List.cons_append,lkp]
    split
    · rfl
    · exact Qkq l m k
theorem Qof: ∀{l:List (Nat×Nat)} {b b':Nat},rlk l b=some b'→(b',b)∈l
  | [],_,_,h=>by cases h
  |(j,x)::l,k,v,h=>by
    unfold rlk at h
    split at h
    · rename_i e;cases h;simp [e]
    · exact List.mem_cons_of_mem _ (Qof h)

theorem Qd9 {κ:List (Nat×Nat)} (h:Qfr κ=true) {b' b:Nat} (hm:(b',b)∈κ):lkp κ b'=some b∧rlk κ b=some b':=by
  have:=List.all_eq_true.1 h _ hm
  simpa using this
theorem Qbv {κ:List (Nat×Nat)} (h:Qfr κ=true) {b' b:Nat}:lkp κ b'=some b↔rlk κ b=some b':=
  ⟨fun e=>(Qd9 h (Qc5 e)).2,fun e=>(Qd9 h (Qof e)).1⟩

section
variable {w:World} {im im2:Im} {ρ ρ2:Rho} {κ:List (Nat×Nat)}

theorem Qyo (hρ: ∀b c x,lkp κ b=some c→ρ b=some x→ρ2 c=some x) {v v':PV} {u:Value} (hr:ren0 κ v=some v') (h:LR w im ρ v u):LR w im ρ2 v' u:=by
  unfold ren0 at hr
  split at hr
  · rename_i b esz i off
    split at hr
    · rename_i c hb
      cases hr
      obtain⟨g,hg,rfl⟩:=h.bp_inv
      exact .bp _ _ _ _ g _ (hρ _ _ _ hb hg) rfl
    · cases hr
  · rename_i b esz off len
    split at hr
    · rename_i c hb
      cases hr
      rcases h.bs_inv with⟨e,⟨x,rfl⟩,rfl,rfl⟩|⟨g,cap,cur,e,hg,rfl,ho,hc,hl,hm⟩
      · exact .bsNil _ _ x (hρ _ _ _ hb e)
      · exact .bs _ _ _ _ g _ cap cur e (hρ _ _ _ hb hg) ho rfl hc hl hm
    · cases hr
  · cases hr
    obtain⟨a,b,rfl,h1,h2⟩:=h.fn_inv
    cases h1.nil_inv;cases h2.nil_inv
    exact .ext _ _ (.fn _ [] [] [] [] .nil .nil)
  · cases hr
  · cases hr
  · cases hr
  · rename_i n1 n2 n3 n4 n5 n6
    cases hr
    cases h with
    |ext _ _ h=>exact .ext _ _ h
    |undef u=>exact .undef u
    |bp=>exact absurd rfl (n1 _ _ _ _)
    |bsNil=>exact absurd rfl (n2 _ _ _ _)
    |bs=>exact absurd rfl (n2 _ _ _ _)
    |agg=>exact absurd rfl (n5 _)
    |tup=>exact absurd rfl (n6 _)
    |fn=>exact absurd rfl (n4 _ _ _)
theorem Qjx (hρ: ∀b c x,lkp κ b=some c→ρ b=some x→ρ2 c=some x): ∀{vs vs':List PV} {us:List Value},Qam κ vs=some vs'→LRL w im ρ vs us→LRL w im ρ2 vs' us
  | [],vs',us,hr,h=>by simp [Qam]at hr;subst hr;cases h.nil_inv;exact .nil
  |v::vs,vs',us,hr,h=>by
    unfold Qam at hr
    split at hr
    · cases hr
    · rename_i x hx
      split at hr
      · cases hr
      · rename_i xs hxs
        cases hr
        obtain⟨u,us',rfl,h1,h2⟩:=h.cons_inv
        exact .cons _ _ _ _ (Qyo hρ hx h1) (Qjx hρ hxs h2)
theorem Qyp (hρ: ∀b c x,lkp κ b=some c→ρ b=some x→ρ2 c=some x) {v v':PV} {u:Value} (hr:ren1 κ v=some v') (h:LR w im ρ v u):LR w im ρ2 v' u:=by
  unfold ren1 at hr
  split at hr
  · split at hr
    · rename_i xs hxs
      cases hr
      obtain⟨us,rfl,h1⟩:=h.agg_inv
      exact .agg _ _ (Qjx hρ hxs h1)
    · cases hr
  · cases hr
    obtain⟨us,rfl,h1⟩:=h.tup_inv
    cases h1.nil_inv
    exact .ext _ _ (.tup [] [] .nil)
  · split at hr
    · cases hr
    · rename_i x hx
      split at hr
      · cases hr
      · rename_i y hy
        cases hr
        obtain⟨a,b,rfl,h1,h2⟩:=h.fn_inv
        exact .fn _ _ _ _ _ (Qjx hρ hx h1) (Qjx hρ hy h2)
  · exact Qyo hρ hr h
theorem Qtm (hρ: ∀b c x,lkp κ b=some c→ρ b=some x→ρ2 c=some x): ∀{vs vs':List PV} {us:List Value},Qnx κ vs=some vs'→LRL w im ρ vs us→LRL w im ρ2 vs' us
  | [],vs',us,hr,h=>by simp [Qnx]at hr;subst hr;cases h.nil_inv;exact .nil
  |v::vs,vs',us,hr,h=>by
    unfold Qnx at hr
    split at hr
    · cases hr
    · rename_i x hx
      split at hr
      · cases hr
      · rename_i xs hxs
        cases hr
        obtain⟨u,us',rfl,h1,h2⟩:=h.cons_inv
        exact .cons _ _ _ _ (Qyp hρ hx h1) (Qtm hρ hxs h2)
theorem Qyq (hρ: ∀b c x,lkp κ b=some c→ρ b=some x→ρ2 c=some x) {v v':PV} {u:Value} (hr:ren2 κ v=some v') (h:LR w im ρ v u):LR w im ρ2 v' u:=by
  unfold ren2 at hr
  split at hr
  · split at hr
    · rename_i xs hxs
      cases hr
      obtain⟨us,rfl,h1⟩:=h.tup_inv
      exact .tup _ _ (Qtm hρ hxs h1)
    · cases hr
  · exact Qyp hρ hr h

/-! ### what is flat is so whatever is held -/
theorem Qtn {v:PV} {u:Value} (hf:flatc v=true) (h:LR w im ρ v u):Rep w im2 v u:=by
  cases v<;>first
    |(simp [flatc]at hf;done)
    |(cases h with|ext _ _ h=>cases h<;>constructor)
theorem Qp5: ∀{vs:List PV} {us:List Value},vs.all flatc=true→LRL w im ρ vs us→RepL w im2 vs us
  | [],_,_,.nil=> .nil
  |v::vs,_,hf,.cons _ u _ us h t=>by
    simp only [List.all_cons,Bool.and_eq_true]at hf
    exact .cons _ _ _ _ (Qtn hf.1 h) (Qp5 hf.2 t)
theorem Qto {v:PV} {u:Value} (hf:Qs9 v=true) (h:LR w im ρ v u):LR w im2 ρ v u:=by
  cases v with
  |bs b e o l=>
    rcases h.bs_inv with⟨e1,⟨x,rfl⟩,rfl,rfl⟩|⟨g,cap,cur,e1,hg,rfl,ho,hc,hl,hm⟩
    · exact .bsNil _ _ x e1
    · exact .bs _ _ _ _ g _ cap cur e1 hg ho rfl hc hl hm
  |bp b e i o=>obtain⟨g,hg,rfl⟩:=h.bp_inv;exact .bp _ _ _ _ g _ hg rfl
  |_=>exact .ext _ _ (Qtn hf h)
theorem Qp6: ∀{vs:List PV} {us:List Value},vs.all Qs9=true→LRL w im ρ vs us→LRL w im2 ρ vs us
  | [],_,_,.nil=> .nil
  |v::vs,_,hf,.cons _ u _ us h t=>by
    simp only [List.all_cons,Bool.and_eq_true]at hf
    exact .cons _ _ _ _ (Qto hf.1 h) (Qp6 hf.2 t)
theorem Qtp {v:PV} {u:Value} (hf:Qta v=true) (h:LR w im ρ v u):LR w im2 ρ v u:=by
  cases v with
  |agg cs=>obtain⟨us,rfl,h1⟩:=h.agg_inv;exact .agg _ _ (Qp6 hf h1)
  |_=>exact Qto hf h
theorem Qp7: ∀{vs:List PV} {us:List Value},vs.all Qta=true→LRL w im ρ vs us→LRL w im2 ρ vs us
  | [],_,_,.nil=> .nil
  |v::vs,_,hf,.cons _ u _ us h t=>by
    simp only [List.all_cons,Bool.and_eq_true]at hf
    exact .cons _ _ _ _ (Qtp hf.1 h) (Qp7 hf.2 t)
theorem Zhc {v:PV} {u:Value} (hf:flatr v=true) (h:LR w im ρ v u):LR w im2 ρ v u:=by
  cases v with
  |tup cs=>obtain⟨us,rfl,h1⟩:=h.tup_inv;exact .tup _ _ (Qp7 hf h1)
  |_=>exact Qtp hf h

theorem Qwa {v:PV} {u:Value} (hf:Qny v=true) (h:LR w im ρ v u):Rep w im v u:=by
  unfold Qny at hf
  split at hf<;>first
    |(cases h with|ext _ _ h=>exact h)
    |(obtain⟨a,b,rfl,h1,h2⟩:=h.fn_inv
      cases h1.nil_inv;cases h2.nil_inv
      exact .fn _ [] [] [] [] .nil .nil)
    |(cases hf;done)
theorem Qld: ∀{vs:List PV} {us:List Value},vs.all Qny=true→LRL w im ρ vs us→RepL w im vs us
  | [],_,_,.nil=> .nil
  |v::vs,_,hf,.cons _ u _ us h t=>by
    simp only [List.all_cons,Bool.and_eq_true]at hf
    exact .cons _ _ _ _ (Qwa hf.1 h) (Qld hf.2 t)
theorem Box.ext_rep {B:Box} {us:List Value} (he:B.ext=true) (h:LRL w im ρ (B.els.flatMap PV.cells) us) (ha:B.arr=true→RepL w im (B.els.flatMap PV.cells) us):RepL w im (B.els.flatMap PV.cells) us:=by
  simp only [Box.ext,Bool.or_eq_true]at he
  rcases he with e|e
  · exact ha e
  · exact Qld e h
end

/-! ### lending -/
theorem Qh9: ∀{θ:List (Nat×Nat)} {bx:Bx} {bxs:List (Nat×Box)} {l:Acc},Qg2 θ bx=some (bxs,l)→
    (∀b',lkp bxs b'=match lkp θ b' with|some b=>bx b|none=>none)∧ ∀p∈θ,∃B,bx p.2=some B∧B.live=true∧B.ext=true∧LENT≤p.1
  | [],bx,bxs,l,h=>by obtain⟨e,_⟩:=M.pure_some h;subst e;exact⟨fun _=>rfl,by simp⟩
  |(b',b)::θ,bx,bxs,l,h=>by
    obtain⟨Bo,_,_,e1,e2,_⟩:=M.bind_some h
    obtain⟨rfl,_⟩:=M.hard_some e1
    obtain⟨B,_,_,e3,e4,_⟩:=M.bind_some e2
    obtain⟨c1,_⟩:=M.ofOpt_some e3
    obtain⟨_,_,_,e5,e6,_⟩:=M.bind_some e4
    obtain⟨c2,_⟩:=M.ok_some e5
    obtain⟨bs,_,_,e7,e8,_⟩:=M.bind_some e6
    obtain⟨e9,_⟩:=M.pure_some e8
    subst e9
    obtain⟨k1,k2⟩:=Qh9 e7
    simp only [Bool.and_eq_true]at c2
    refine⟨fun x=> ?_,?_⟩
    · simp only [lkp]
      by_cases hx:x=b'
      · simp [hx,c1]
      · simp only [hx,if_false];exact k1 x
    · intro p hp
      rcases List.mem_cons.1 hp with rfl|hp
      · exact⟨B,c1,c2.1.1,c2.1.2,Nat.le_of_ble_eq_true c2.2⟩
      · exact k2 p hp
theorem Qle: ∀{ν:List (Nat×Nat)} {bx:Bx} {u:Unit} {l:Acc},Qnz ν bx=some (u,l)→ ∀p∈ν,bx p.2=none∧p.2<LENT
  | [],_,_,_,_=>by simp
  |(b',b)::ν,bx,u,l,h=>by
    obtain⟨Bo,_,_,e1,e2,_⟩:=M.bind_some h
    obtain⟨rfl,_⟩:=M.hard_some e1
    obtain⟨_,_,_,e5,e6,_⟩:=M.bind_some e2
    obtain⟨c2,_⟩:=M.ok_some e5
    simp only [Bool.and_eq_true,Option.isNone_iff_eq_none]at c2
    intro p hp
    rcases List.mem_cons.1 hp with rfl|hp
    · exact⟨c2.1,Nat.le_of_ble_eq_true c2.2⟩
    · exact Qle e6 p hp

section
variable {C:Ctx} {a:Act} {w:World} {ρ:Rho} {bx:Bx} {θ:List (Nat×Nat)}

/-- our places,under the call's names -/
def rhoC (θ:List (Nat×Nat)) (ρ:Rho):Rho:=fun b'=>(lkp θ b').bind ρ

theorem Q9c (hθ: ∀b b',rlk θ b=some b'→lkp θ b'=some b) {st:St} {im:Im} (h:Rel' C st a w ρ im) (hs:Qd7 bx st) {v y:PV} {u:Value} {es:List Eff} {l:Acc} (hv:LR w im ρ v u) (he:Q08 θ v bx=some ((y,es),l)):
    ∃im',Gone C st (Qat es st) a w ρ im im' bx∧LR w im' (rhoC θ ρ) y u:=by
  have plain: ∀{v},LR w im ρ v u→esc1 v bx=some ((y,es),l)→ ∃im',Gone C st (Qat es st) a w ρ im im' bx∧LR w im' (rhoC θ ρ) y u:=fun hv he=>
    let ⟨im',g,r⟩:=Qyh h hs hv he
    ⟨im',g,.ext _ _ r⟩
  unfold Q08 at he
  split at he
  · rename_i b esz off len
    cases hb:rlk θ b with
    |none=>simp only [hb]at he;exact plain hv he
    |some b'=>
      simp only [hb]at he
      obtain⟨e,_⟩:=M.pure_some he;cases e
      have hl:=hθ _ _ hb
      refine⟨im,Gone.refl h hs,?_⟩
      rcases hv.bs_inv with⟨e,⟨x,rfl⟩,rfl,rfl⟩|⟨g,cap,cur,e,hg,rfl,ho,hc,hlc,hm⟩
      · exact .bsNil _ _ x (by simp [rhoC,hl,e])
      · exact .bs _ _ _ _ g _ cap cur e (by simp [rhoC,hl,hg]) ho rfl hc hlc hm
  · rename_i b esz i off
    cases hb:rlk θ b with
    |none=>simp only [hb]at he;exact plain hv he
    |some b'=>
      simp only [hb]at he
      obtain⟨e,_⟩:=M.pure_some he;cases e
      have hl:=hθ _ _ hb
      refine⟨im,Gone.refl h hs,?_⟩
      obtain⟨g,hg,rfl⟩:=hv.bp_inv
      exact .bp _ _ _ _ g _ (by simp [rhoC,hl,hg]) rfl
  · exact plain hv he

theorem Q9d (hθ: ∀b b',rlk θ b=some b'→lkp θ b'=some b): ∀{st:St} {im:Im} (_:Rel' C st a w ρ im) (_:Qd7 bx st) {vs ys:List PV} {us:List Value} {es:List Eff} {l:Acc} (_:LRL w im ρ vs us)
    (_:Q8x θ vs bx=some ((ys,es),l)),∃im',Gone C st (Qat es st) a w ρ im im' bx∧LRL w im' (rhoC θ ρ) ys us:=by
  intro st im h hs vs
  induction vs generalizing st im with
  |nil=>
    intro ys us es l hv he
    obtain⟨e,_⟩:=M.pure_some he;cases e
    cases hv.nil_inv
    exact⟨im,Gone.refl h hs,.nil⟩
  |cons v vs ih=>
    intro ys us es l hv he
    obtain⟨u,us',rfl,h1,h2⟩:=hv.cons_inv
    obtain⟨⟨y,e1⟩,l1,l2,k1,k2,_⟩:=M.bind_some he
    obtain⟨⟨ys',e2⟩,l3,l4,k3,k4,_⟩:=M.bind_some k2
    obtain⟨k5,_⟩:=M.pure_some k4;cases k5
    obtain⟨im1,g1,r1⟩:=Q9c hθ h hs h1 k1
    obtain⟨im2,g2,r2⟩:=ih g1.rel g1.soft (h2.mono (Keeps.refl _ _) g1.im fun _ _ x=>x) k3
    refine⟨im2,by rw [Qbh];exact g1.trans g2,.cons _ _ _ _ (r1.mono (Keeps.refl _ _) g2.im fun _ _ x=>x) r2⟩

/-! ### what comes back -/
theorem Qia {κ:List (Nat×Nat)} (hκ:Qfr κ=true): ∀{bxs:List (Nat×Box)} {es:List Eff},Qfs κ bxs=some es→
    (∀b' B,lkp bxs b'=some B→B.ext=true∧ ∃b,lkp κ b'=some b)∧
    ∀st:St,(Qat es st).var=st.var∧(Qat es st).out=st.out∧(Qat es st).yl=st.yl∧ ∀b,(Qat es st).box b=match rlk κ b with|some b'=>(match lkp bxs b' with|some B=>some B|none=>st.box b)|none=>st.box b
  | [],es,h=>by
    simp [Qfs]at h;subst h
    refine⟨fun b' B h=>(by cases h),fun st=>⟨rfl,rfl,rfl,fun b=> ?_⟩⟩
    simp only [Qc9,lkp]
    split<;>rfl
  |(b',B)::bs,es,h=>by
    unfold Qfs at h
    split at h
    · cases h
    · rename_i b hb
      split at h
      · rename_i hc
        split at h
        · rename_i es' hes
          cases h
          obtain⟨k1,k2⟩:=Qia hκ hes
          refine⟨?_,fun st=> ?_⟩
          · intro x B' hx
            unfold lkp at hx
            split at hx
            · rename_i e;cases hx;subst e;exact⟨hc.1,b,hb⟩
            · exact k1 x B' hx
          · obtain⟨m1,m2,m3,m4⟩:=k2 (st.setBox b B)
            rw [Qbc]
            refine⟨m1,m2,m3,fun c=> ?_⟩
            show(Qat es' (st.setBox b B)).box c=_
            rw [m4 c]
            have hn:lkp bs b'=none:=by simpa using hc.2
            cases hr:rlk κ c with
            |none=>
              simp only
              have:c≠b:=by rintro rfl;rw [(Qbv hκ).1 hb]at hr;cases hr
              exact Qax _ _ _ _ this
            |some c'=>
              simp only [lkp]
              by_cases e:c'=b'
              · subst e
                have:c=b:=by have:=(Qbv hκ).2 hr;rw [hb]at this;exact(Option.some.inj this).symm
                subst this
                simp [hn,St.setBox,Qa0]
              · have:c≠b:=by rintro rfl;rw [(Qbv hκ).1 hb]at hr;cases hr;exact e rfl
                simp only [e,if_false]
                cases lkp bs c' with
                |some B'=>rfl
                |none=>exact Qax _ _ _ _ this
        · cases h
      · cases h

end

theorem Rel'.turned {C:Ctx} {st:St} {a:Act} {w w':World} {ρ:Rho} {im:Im} {args:List PV} (h:Rel' C st a w ρ im) (ht:Turn C.X C.base ρ im w w') (hj:C.J (Own ρ) im (st.out++[args]) w'):
    Rel' C {st with out:=st.out++[args]} a w' ρ im where
  root:=⟨h.root.below.trans ht.lent,h.root.keep.trans ht.keep h.root.im0,h.root.im0,h.root.im1,h.root.rho0,hj,h.root.yl⟩
  nt:=h.nt
  dfr:=Qjj ht.keep h.dfr
  imc:=fun g j hi=>by rw [ht.keep.cell g j hi];exact h.imc g j hi
  var:=fun t v hv=>(h.var t v hv).mono ht.keep (fun _ _ x=>x) (fun _ _ x=>x)
  rho:=h.rho
  box:=fun b x B hx hB=>(h.box b x B hx hB).mono ht.keep (fun _ _ x=>x) (fun _ _ _ _ x=>x) (fun _ _ x=>x) fun _ g hg=>ht.own g ⟨b,by rw [hx,hg]⟩
  inj:=h.inj

theorem Qyr {C:Ctx} {st:St} {a:Act} {w:World} {ρ:Rho} {im im1:Im} {θ ν:List (Nat×Nat)} (h:Rel' C st a w ρ im) (hi: ∀g j,im g j→im1 g j) (hκ:Qfr (θ++ν)=true)
    (hlent: ∀p∈θ,∃B,st.box p.2=some B∧B.live=true) (hfree: ∀p∈ν,st.box p.2=none∧p.2<LENT) {r r':PV} {bxs':List (Nat×Box)} {ef:List Eff} (hl:land θ ν bxs' r=some (r',ef))
    {w':World} {ρ':Rho} {im':Im} {v:Value} (hst:Step (rhoC θ ρ) im1 w ρ' im' w') (himc: ∀g j,im' g j→ ∃u,w'.cell? ⟨g,j,none⟩=some u) (hbox:Boxes (Own ρ') w' im' ρ' (lkp bxs'))
    (hstay: ∀b x x',rhoC θ ρ b=some x→ρ' b=some x'→x'=x) (hrv:LR w' im' ρ' r v) (hF:(∀g j,im1 g j→im g j)∨Qlo r bxs'=true):
    ∃ρ2 im2,Rel' C (Qat ef st) a w' ρ2 im2∧LR w' im2 ρ2 r' v:=by
  unfold land at hl
  split at hl
  case isFalse=>cases hl
  rename_i hkeys
  split at hl
  case h_2=>cases hl
  rename_i r1 es1 hr2 hlb
  cases hl
  obtain⟨kx,kst⟩:=Qia hκ hlb
  obtain⟨kvar,kout,kyl,kbox⟩:=kst st
  have hin: ∀b' b,lkp (θ++ν) b'=some b→ ∃B,lkp bxs' b'=some B:=fun b' b e=>Option.isSome_iff_exists.1 (List.all_eq_true.1 hkeys _ (Qc5 e))
  have hownC: ∀g,Own (rhoC θ ρ) g→ ∃b b' B,(b',b)∈θ∧lkp θ b'=some b∧ρ b=some (some g)∧st.box b=some B∧B.live=true:=by
    rintro g ⟨b',hb'⟩
    unfold rhoC at hb'
    cases e:lkp θ b' with
    |none=>rw [e]at hb';cases hb'
    |some b=>
      rw [e]at hb'
      obtain⟨B,hB,hBl⟩:=hlent _ (Qc5 e)
      exact⟨b,b',B,Qc5 e,e,hb',hB,hBl⟩
  have hownC': ∀g,Own (rhoC θ ρ) g→Own ρ g:=fun g x=>let ⟨b,_,_,_,_,e,_⟩:=hownC g x;⟨b,e⟩
  obtain⟨ρ2,hρ2⟩: ∃ρ2:Rho,∀b,ρ2 b=match rlk (θ++ν) b with|some b'=>ρ' b'|none=>ρ b:=⟨fun b=>match rlk (θ++ν) b with|some b'=>ρ' b'|none=>ρ b,fun _=>rfl⟩
  obtain⟨im2,him2⟩: ∃im2:Im,∀g j,im2 g j↔(im g j∨(im' g j∧(Own (rhoC θ ρ) g∨w.heap.size≤g))):=⟨fun g j=>im g j∨(im' g j∧(Own (rhoC θ ρ) g∨w.heap.size≤g)),fun _ _=>Iff.rfl⟩
  have him2': ∀g j,im2 g j→im' g j:=fun g j x=>((him2 g j).1 x).elim (fun y=>hst.mono g j (hi g j y)) fun y=>y.1
  have hmono: ∀g j,im g j→im2 g j:=fun g j x=>(him2 g j).2 (.inl x)
  have hkeep:Keeps im w w':=⟨fun g j x=>hst.keep.cell g j (hi g j x),hst.keep.obj,hst.keep.oth⟩
  -- a name of ours that is not the call's
  have hold: ∀b x,ρ b=some x→ρ2 b=some x:=by
    intro b x hx
    rw [hρ2]
    cases e:rlk (θ++ν) b with
    |none=>exact hx
    |some b'=>
      simp only
      have hm:=Qof e
      obtain⟨B',hB'⟩:=hin b' b ((Qbv hκ).2 e)
      rcases List.mem_append.1 hm with hm|hm
      · obtain⟨c,hc⟩:=Qv9 hm
        have hcb:c=b:=by
          have:=(Qbv hκ).2 e
          rw [Qkq,hc]at this
          exact Option.some.inj this
        subst hcb
        have hrc:rhoC θ ρ b'=some x:=by simp [rhoC,hc,hx]
        cases hx':ρ' b' with
        |none=>rw [(hbox.rho b').1 hx']at hB';cases hB'
        |some x'=>rw [hstay b' x x' hrc hx']
      · have:=(h.rho b).2 (hfree _ hm).1
        rw [this]at hx;cases hx
  have hfwd: ∀b c x,lkp (θ++ν) b=some c→ρ' b=some x→ρ2 c=some x:=by
    intro b c x e hx
    rw [hρ2,(Qbv hκ).1 e];exact hx
  have himp: ∀g j,im' g j→(Own ρ' g)→im2 g j:=by
    intro g j x y
    exact(him2 g j).2 (.inr ⟨x,hst.own g y⟩)
  -- what is held by the call may be held by us, where nothing is flat
  have hall:(∀g j,im1 g j→im g j)→ ∀g j,im' g j→im2 g j:=by
    intro hF g j x
    rcases hst.imn g j x with y|y|y
    · exact hmono _ _ (hF g j y)
    · exact(him2 g j).2 (.inr ⟨x,.inl y⟩)
    · exact(him2 g j).2 (.inr ⟨x,.inr y⟩)
  have hcont: ∀b' B us,lkp bxs' b'=some B→LRL w' im' ρ' (B.els.flatMap PV.cells) us→(B.arr=true→RepL w' im' (B.els.flatMap PV.cells) us)→RepL w' im2 (B.els.flatMap PV.cells) us:=by
    intro b' B us hB h1 h2
    have hr:=Box.ext_rep (kx b' B hB).1 h1 h2
    rcases hF with hF|hF
    · exact hr.mono (fun _ _ _=>rfl) (hall hF)
    · simp only [Qlo,Bool.and_eq_true]at hF
      exact Qp5 (List.all_eq_true.1 hF.2 _ (Qc5 hB)) (hr.toLRL (ρ:=ρ'))
  -- the new boxes
  have hnewbox: ∀b b' x B,rlk (θ++ν) b=some b'→ρ' b'=some x→lkp bxs' b'=some B→Qff C.own w' im2 ρ2 B x:=by
    intro b b' x B e hx hB
    have hb:=hbox.box b' x B hx hB
    cases x with
    |none=>exact hb
    |some g=>
      obtain⟨h1,h2,h3,h4,cur,us,rest,h5,h6,h7,h8,h9,h10,h11⟩:=hb
      have hr:=hcont b' B us hB h7 h8
      have hown:C.own g:=by
        rcases hst.own g h1 with y|y
        · exact(h.ownB (hownC' g y)).1
        · exact .inl (Nat.le_trans h.root.below.size y)
      exact⟨hown,h2,h3,h4,cur,us,rest,h5,h6,hr.toLRL,fun _=>hr,h9,fun j hj hh=>himp g j (h10 j hj hh) h1,fun hl j hj hh=>h11 hl j hj (him2' g j hh)⟩
  have hoff: ∀b g B,rlk (θ++ν) b=none→ρ b=some (some g)→st.box b=some B→B.live=true→ ¬Own (rhoC θ ρ) g:=by
    intro b g B e hb hB hBl hc
    obtain⟨b1,b1',B1,hm,_,e1,e2,e3⟩:=hownC g hc
    have:=h.inj b b1 g B B1 hb e1 hB e2 hBl e3
    subst this
    have hm':(b1',b)∈θ++ν:=List.mem_append_left _ hm
    rw [(Qd9 hκ hm').2]at e;cases e
  refine⟨ρ2,im2,⟨?_,h.nt,Qjj hkeep h.dfr,?_,?_,?_,?_,?_⟩,?_⟩
  · have hstep:Step ρ im w ρ2 im2 w':=by
      refine⟨hst.lent.mono (Nat.le_refl _) fun k _ x=>hownC' k x,hkeep,?_,hmono,?_⟩
      · rintro g ⟨b,hb⟩
        rw [hρ2]at hb
        cases e:rlk (θ++ν) b with
        |none=>rw [e]at hb;exact .inl ⟨b,hb⟩
        |some b'=>rw [e]at hb;exact(hst.own g ⟨b',hb⟩).imp (hownC' g) id
      · intro g j x
        rcases(him2 g j).1 x with y|⟨_,y⟩
        · exact .inl y
        · exact .inr (y.imp (hownC' g) id)
    have hroot:=h.step hstep (by
      intro b x x' hL h0 hx'
      cases hρb:ρ b with
      |none=>
        exfalso
        rw [hρ2]at hx'
        cases e:rlk (θ++ν) b with
        |none=>rw [e,hρb]at hx';cases hx'
        |some b'=>
          rcases List.mem_append.1 (Qof e)with hm|hm
          · obtain⟨B,hB,_⟩:=hlent _ hm
            rw [(h.rho b).1 hρb]at hB;cases hB
          · exact absurd (hfree _ hm).2 (Nat.not_lt.2 hL)
      |some y=>
        have:=h.root.rho0 b x y hL h0 hρb
        subst this
        rw [hold b _ hρb]at hx'
        exact(Option.some.inj hx').symm)
    rw [kout,kyl]
    exact hroot
  · intro g j x
    rcases(him2 g j).1 x with y|⟨y,_⟩
    · rw [hkeep.cell g j y];exact h.imc g j y
    · exact himc g j y
  · intro t x hx
    rw [kvar]at hx
    exact(h.var t x hx).mono hkeep hmono hold
  · intro b
    rw [hρ2,kbox]
    cases e:rlk (θ++ν) b with
    |none=>exact h.rho b
    |some b'=>
      simp only
      obtain⟨B,hB⟩:=hin b' b ((Qbv hκ).2 e)
      rw [hB]
      simp only [reduceCtorEq,iff_false]
      intro hn
      rw [(hbox.rho b').1 hn]at hB;cases hB
  · intro b x B hx hB
    rw [hρ2]at hx
    rw [kbox]at hB
    cases e:rlk (θ++ν) b with
    |none=>
      rw [e]at hx hB
      refine(h.box b x B hx hB).mono hkeep hmono ?_ hold ?_
      · intro hl g j hg hh
        rcases(him2 g j).1 hh with y|⟨_,y⟩
        · exact y
        · subst hg
          rcases y with y|y
          · exact absurd y (hoff b g B e hx hB hl)
          · exact absurd (h.block_lt hx).1 (Nat.not_lt.2 y)
      · intro hl g hg
        subst hg
        exact hst.lent.block g (h.block_lt hx).1 (hoff b g B e hx hB hl)
    |some b'=>
      rw [e]at hx hB
      obtain⟨B',hB'⟩:=hin b' b ((Qbv hκ).2 e)
      simp only [hB',Option.some.injEq]at hB
      subst hB
      exact hnewbox b b' x _ e hx hB'
  · intro b1 b2 g B1 B2 g1 g2 e1 e2 l1 l2
    have look: ∀b B,(Qat ef st).box b=some B→ ∀b',rlk (θ++ν) b=some b'→lkp bxs' b'=some B:=by
      intro b B hB b' e
      rw [kbox,e]at hB
      obtain⟨B',hB'⟩:=hin b' b ((Qbv hκ).2 e)
      simp only [hB',Option.some.injEq]at hB
      rw [hB',hB]
    have mix: ∀b1 b2 B1 B2,ρ2 b1=some (some g)→ρ2 b2=some (some g)→(Qat ef st).box b1=some B1→(Qat ef st).box b2=some B2→B1.live=true→B2.live=true→rlk (θ++ν) b1=none→ ∀b',rlk (θ++ν) b2=some b'→False:=by
      intro b1 b2 B1 B2 g1 g2 e1 e2 l1 l2 k1 b' k2
      rw [hρ2,k1]at g1
      rw [hρ2,k2]at g2
      rw [kbox,k1]at e1
      rcases hst.own g ⟨b',g2⟩with y|y
      · exact hoff b1 g B1 k1 g1 e1 l1 y
      · have:=(h.block_lt g1).1;omega
    cases k1:rlk (θ++ν) b1 with
    |none=>
      cases k2:rlk (θ++ν) b2 with
      |none=>
        rw [hρ2,k1]at g1;rw [hρ2,k2]at g2;rw [kbox,k1]at e1;rw [kbox,k2]at e2
        exact h.inj b1 b2 g B1 B2 g1 g2 e1 e2 l1 l2
      |some b'=>exact(mix b1 b2 B1 B2 g1 g2 e1 e2 l1 l2 k1 b' k2).elim
    |some b1'=>
      cases k2:rlk (θ++ν) b2 with
      |none=>exact(mix b2 b1 B2 B1 g2 g1 e2 e1 l2 l1 k2 b1' k1).elim
      |some b2'=>
        have q1:=look b1 B1 e1 b1' k1
        have q2:=look b2 B2 e2 b2' k2
        rw [hρ2,k1]at g1;rw [hρ2,k2]at g2
        have:=hbox.inj b1' b2' g B1 B2 g1 g2 q1 q2 l1 l2
        subst this
        have z1:=(Qbv hκ).2 k1
        have z2:=(Qbv hκ).2 k2
        rw [z1]at z2
        exact Option.some.inj z2
  · have hr3:=Qyq hfwd hr2 hrv
    rcases hF with hF|hF
    · exact hr3.mono (Keeps.refl _ _) (hall hF) fun _ _ x=>x
    · simp only [Qlo,Bool.and_eq_true]at hF
      exact Qyq hfwd hr2 (Zhc hF.1 hrv)

theorem Zhd {C:Ctx} {st:St} {a:Act} {w:World} {ρ:Rho} {im:Im} {θ0 ν0 θ ν:List (Nat×Nat)} {f0 f:FuncId} {vs args:List PV} {us:List Value} {bxs:List (Nat×Box)} {es:List Eff} {l:Acc} (h:Rel' C st a w ρ im) (hv:LRL w im ρ vs us)
    (hx:Qf7 θ0 ν0 f0 vs st.box=some (.callB f args bxs es θ ν,l)):
    f0=f∧ ∃im1,(∀g j,im1 g j→ ∃u,w.cell? ⟨g,j,none⟩=some u)∧Boxes (Own (rhoC θ ρ)) w im1 (rhoC θ ρ) (lkp bxs)∧LRL w im1 (rhoC θ ρ) args us∧
      ∀r bxs' r' ef,land θ ν bxs' r=some (r',ef)→ ∀w' ρ' im' v,Step (rhoC θ ρ) im1 w ρ' im' w'→(∀g j,im' g j→ ∃u,w'.cell? ⟨g,j,none⟩=some u)→Boxes (Own ρ') w' im' ρ' (lkp bxs')→
        (∀b x x',rhoC θ ρ b=some x→ρ' b=some x'→x'=x)→LR w' im' ρ' r v→ ∃ρ2 im2,Rel' C (Qat ((if Qlo r bxs' then []else es)++ef) st) a w' ρ2 im2∧LR w' im2 ρ2 r' v:=by
  obtain⟨⟨ys,es0⟩,_,_,e1,e2,_⟩:=M.bind_some hx
  obtain⟨bxs0,_,_,e3,e4,_⟩:=M.bind_some e2
  obtain⟨_,_,_,e5,e6,_⟩:=M.bind_some e4
  obtain⟨_,_,_,e7,e8,_⟩:=M.bind_some e6
  obtain⟨c1,_⟩:=M.ok_some e7
  obtain⟨e9,_⟩:=M.pure_some e8
  cases e9
  simp only [Bool.and_eq_true,List.all_eq_true,Option.isNone_iff_eq_none,Bool.not_eq_true']at c1
  obtain⟨hκ,hes⟩:=c1
  have hθ: ∀b b',rlk θ0 b=some b'→lkp θ0 b'=some b:=by
    intro b b' e
    have hm:=Qof e
    obtain⟨c,hc⟩:=Qv9 hm
    have:=(Qd9 hκ (List.mem_append_left ν0 hm)).1
    rw [Qkq,hc]at this
    rw [hc];exact this
  obtain⟨k1,k2⟩:=Qh9 e3
  have k3:=Qle e5
  obtain⟨im1,g1,r1⟩:=Q9d hθ h (fun _=>rfl) hv e1
  have hbx: ∀b b',rlk (θ0++ν0) b=some b'→(Qat es0 st).box b=st.box b:=by
    intro b b' e
    refine Qd8 es0 st fun x hx hid=> ?_
    have:=(hes x hx).1
    rw [hid,e]at this;cases this
  have hbθ: ∀p∈θ0,(Qat es0 st).box p.2=st.box p.2:=fun p hp=>hbx _ _ (Qd9 hκ (List.mem_append_left ν0 hp)).2
  have hbν: ∀p∈ν0,(Qat es0 st).box p.2=st.box p.2:=fun p hp=>hbx _ _ (Qd9 hκ (List.mem_append_right θ0 hp)).2
  refine⟨rfl,im1,g1.rel.imc,⟨?_,?_,?_⟩,r1,?_⟩
  · intro b'
    rw [k1 b']
    unfold rhoC
    cases e:lkp θ0 b' with
    |none=>simp
    |some b=>simpa using h.rho b
  · intro b' x B hx hB
    rw [k1 b']at hB
    unfold rhoC at hx
    cases e:lkp θ0 b' with
    |none=>rw [e]at hx;cases hx
    |some b=>
      rw [e]at hx hB
      simp only [Option.bind_some]at hx hB
      have hb:=g1.rel.box b x B hx (by rw [hbθ _ (Qc5 e)];exact hB)
      obtain⟨B1,hB1,_,hext,_⟩:=k2 _ (Qc5 e)
      simp only [hB,Option.some.injEq]at hB1
      subst hB1
      cases x with
      |none=>exact hb
      |some g=>
        obtain⟨h1,h2,h3,h4,cur,us,rest,h5,h6,h7,h8,h9,h10,h11⟩:=hb
        have hr:=Box.ext_rep hext h7 h8
        exact⟨⟨b',by simp [rhoC,e,hx]⟩,h2,h3,h4,cur,us,rest,h5,h6,hr.toLRL,fun _=>hr,h9,h10,h11⟩
  · intro b1 b2 g B1 B2 g1' g2' e1' e2' l1 l2
    rw [k1 b1]at e1'
    rw [k1 b2]at e2'
    unfold rhoC at g1' g2'
    cases z1:lkp θ0 b1 with
    |none=>rw [z1]at g1';cases g1'
    |some c1=>
      cases z2:lkp θ0 b2 with
      |none=>rw [z2]at g2';cases g2'
      |some c2=>
        rw [z1]at g1' e1'
        rw [z2]at g2' e2'
        simp only [Option.bind_some]at g1' g2' e1' e2'
        have:=h.inj c1 c2 g B1 B2 g1' g2' e1' e2' l1 l2
        subst this
        have y1:=(Qd9 hκ (List.mem_append_left ν0 (Qc5 z1))).2
        have y2:=(Qd9 hκ (List.mem_append_left ν0 (Qc5 z2))).2
        rw [y1]at y2
        exact Option.some.inj y2
  · intro r bxs' r' ef hl w' ρ' im' v hst himc hbox hstay hrv
    rw [Qbh]
    by_cases hfl:Qlo r bxs'=true
    · rw [if_pos hfl]
      exact Qyr h g1.im hκ (fun p hp=>let ⟨B,hB,hl,_⟩:=k2 p hp;⟨B,hB,hl⟩) k3 hl hst himc hbox hstay hrv (.inr hfl)
    · rw [if_neg hfl]
      exact Qyr g1.rel (fun _ _ x=>x) hκ (fun p hp=>let ⟨B,hB,hl,_⟩:=k2 p hp;⟨B,by rw [hbθ p hp];exact hB,hl⟩) (fun p hp=>by rw [hbν p hp];exact k3 p hp) hl hst himc hbox hstay hrv (.inl fun _ _ x=>x)

end Go.Vl
