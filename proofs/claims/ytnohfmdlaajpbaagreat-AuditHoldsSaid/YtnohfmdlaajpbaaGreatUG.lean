/-
  UD, UE, UF, UG (merged for the claim).
-/
import Derived.Test.YtnohfmdlaajpbaaGreatUC
import Derived.Great.BuildSlice
set_option linter.unusedSimpArgs false
set_option linter.unusedVariables false
namespace Go.Vl
open Go.RowKit
theorem M.bind_some {α β:Type} {m:M α} {f:α→M β} {bx:Bx} {c:β} {l:Acc} (h:M.bind m f bx=some (c,l)):
  ∃a l1 l2,m bx=some (a,l1)∧f a bx=some (c,l2)∧l=l1++l2:=by
 unfold M.bind at h;split at h
 ·cases h
 ·rename_i a l1 e1;split at h
  ·cases h
  ·rename_i c' l2 e2;cases h;exact⟨a,l1,l2,e1,e2,rfl⟩
theorem M.pure_some {α:Type} {a c:α} {bx:Bx} {l:Acc} (h:M.pure a bx=some (c,l)):c=a∧l=[]:=by
 unfold M.pure at h;cases h;exact⟨rfl,rfl⟩
theorem M.ofOpt_some {α:Type} {x:Option α} {c:α} {bx:Bx} {l:Acc} (h:M.ofOpt x bx=some (c,l)):x=some c∧l=[]:=by
 unfold M.ofOpt at h;cases x<;>simp at h;obtain⟨rfl,rfl⟩:=h;exact⟨rfl,rfl⟩
theorem M.ok_some {c:Bool} {u:Unit} {bx:Bx} {l:Acc} (h:M.ok c bx=some (u,l)):c=true∧l=[]:=by
 unfold M.ok at h;cases c<;>simp at h;exact⟨rfl,h⟩
theorem M.soft_some {b:Nat} {S:SB} {bx:Bx} {l:Acc} (h:M.soft b bx=some (S,l)): ∃B,bx b=some B∧S=B.soft∧l=[(b,false)]:=by
 unfold M.soft at h;split at h
 ·rename_i B e;cases h;exact⟨B,e,rfl,rfl⟩
 ·cases h
theorem M.hard_some {b:Nat} {x:Option Box} {bx:Bx} {l:Acc} (h:M.hard b bx=some (x,l)):x=bx b∧l=[(b,true)]:=by
 unfold M.hard at h;cases h;exact⟨rfl,rfl⟩
section
variable {w:World} {im:Im} {ρ:Rho}
theorem LR.agg_inv {cs:List PV} {u:Value} (h:LR w im ρ (.agg cs) u): ∃vs:List Value,u= .agg vs.toArray∧LRL w im ρ cs vs:=by
 cases h with
 |ext _ _ h=>cases h with|agg _ vs h=>exact⟨vs,rfl,h.toLRL⟩
 |agg _ vs h=>exact⟨vs,rfl,h⟩
theorem LR.tup_inv {cs:List PV} {u:Value} (h:LR w im ρ (.tup cs) u): ∃vs:List Value,u= .tuple vs.toArray∧LRL w im ρ cs vs:=by
 cases h with
 |ext _ _ h=>cases h with|tup _ vs h=>exact⟨vs,rfl,h.toLRL⟩
 |tup _ vs h=>exact⟨vs,rfl,h⟩
theorem LR.fn_inv {f:FuncId} {first cap:List PV} {u:Value} (h:LR w im ρ (.fn f first cap) u):
  ∃a b:List Value,u= .func (.func f) a.toArray b.toArray∧LRL w im ρ first a∧LRL w im ρ cap b:=by
 cases h with
 |ext _ _ h=>cases h with|fn _ _ _ a b h1 h2=>exact⟨a,b,rfl,h1.toLRL,h2.toLRL⟩
 |fn _ _ _ a b h1 h2=>exact⟨a,b,rfl,h1,h2⟩
theorem LR.bp_inv {b esz i off:Nat} {u:Value} (h:LR w im ρ (.bp b esz i off) u): ∃g,ρ b=some (some g)∧u= .pointer (some ⟨g,i*esz+off,none⟩):=by
 cases h with
 |ext _ _ h=>cases h
 |bp _ _ _ _ g o h ho=>subst ho;exact⟨g,h,rfl⟩
theorem LR.rp_inv {cs:List PV} {u:Value} (h:LR w im ρ (.rp cs) u):Rep w im (.rp cs) u:=by
 cases h with|ext _ _ h=>exact h
theorem LR.slc_inv {cs:List PV} {u:Value} (h:LR w im ρ (.slc cs) u):Rep w im (.slc cs) u:=by
 cases h with|ext _ _ h=>exact h
theorem LR.nilS_inv {u:Value} (h:LR w im ρ .nilS u):u= .slice none 0 0:=by
 cases h with|ext _ _ h=>cases h;rfl
theorem LR.int_inv {k:IntKind} {n:Int} {u:Value} (h:LR w im ρ (.int k n) u):u= .int k n:=by
 cases h with|ext _ _ h=>cases h;rfl
theorem LR.yld_inv {l s:Nat} {u:Value} (h:LR w im ρ (.yld l s) u):u= .func (.yield l) #[] #[]:=by
 cases h with|ext _ _ h=>cases h;rfl
theorem LR.bool_inv {b:Bool} {u:Value} (h:LR w im ρ (.bool b) u):u= .bool b:=by
 cases h with|ext _ _ h=>cases h;rfl
theorem LR.str_inv {s:ByteArray} {u:Value} (h:LR w im ρ (.str s) u):u= .string s:=by
 cases h with|ext _ _ h=>cases h;rfl
theorem LRL.one_inv {v:PV} {us:List Value} (h:LRL w im ρ [v] us): ∃u,us=[u]∧LR w im ρ v u:=by
 cases h with|cons _ u _ us h t=>cases t;exact⟨u,rfl,h⟩
theorem LRL.cons_inv {v:PV} {vs:List PV} {us:List Value} (h:LRL w im ρ (v::vs) us): ∃u us',us=u::us'∧LR w im ρ v u∧LRL w im ρ vs us':=by
 cases h with|cons _ u _ us h t=>exact⟨u,us,rfl,h,t⟩
theorem LRL.two_inv {v v2:PV} {us:List Value} (h:LRL w im ρ [v,v2] us): ∃u u2,us=[u,u2]∧LR w im ρ v u∧LR w im ρ v2 u2:=by
 obtain⟨u,us',rfl,h1,h2⟩:=h.cons_inv;obtain⟨u2,rfl,h3⟩:=h2.one_inv;exact⟨u,u2,rfl,h1,h3⟩
theorem LRL.nil_inv {us:List Value} (h:LRL w im ρ [] us):us=[]:=by cases h;rfl
end
section
variable {P:Program} {w:World}
theorem Qhg {t:TypeId} (h:(P.underlying t).isSome=true):(isAgg t).run P w= .ok (Qa8 P t) w:=by
 cases hd:P.underlying t with
 |none=>rw [hd]at h;cases h
 |some d=>cases d<;>simp [isAgg,run_underlying hd,Qa8,hd]
theorem Qa5 {t:TypeId} {i:TypeInfo} (h:P.info? t=some i):(sizeOf t).run P w= .ok i.size w:=by simp [sizeOf,typeInfo,h]
theorem Qgp {t:TypeId} {i:TypeInfo} (h:P.info? t=some i):P.cellsOf t=i.size:=by simp [Program.cellsOf,h]
theorem Qyu {t:TypeId} (h:tyOk P t=true):(P.underlying t).isSome=true∧ ∃i,P.info? t=some i:=by
 simp only [tyOk,Bool.and_eq_true]at h;exact⟨h.1,Option.isSome_iff_exists.1 h.2⟩
theorem Qyv {im:Im} {ρ:Rho} {t:TypeId} {cs:List PV} {us:List Value} {off:Nat} {v:PV} (hr:LRL w im ρ cs us) (hp:Qdf P t cs off=some v):
  ∃u,(part t us.toArray off).run P w= .ok u w∧LR w im ρ v u:=by
 unfold Qdf at hp;split at hp
 ·rename_i hok;obtain⟨h1,i,h2⟩:=Qyu hok;split at hp
  ·rename_i ha;split at hp
   ·rename_i hlen;cases hp;refine⟨.agg ((us.drop off).take (P.cellsOf t)).toArray,?_,.agg _ _ ((hr.drop off).take _)⟩;simp only [part,Sem.run_bind,Qhg h1,Result.andThen_ok,ha,if_true,Qa5 h2,Sem.run_pure];congr 2;apply Array.ext';rw [Qgp h2];simp [List.extract_eq_take_drop]
   ·cases hp
  ·rename_i ha;obtain⟨u,hu,hru⟩:=hr.get off v hp;refine⟨u,?_,hru⟩;simp [part,Qhg h1,ha,hu]
 ·cases hp
theorem Qls {im:Im} {ρ:Rho} {t:TypeId} {cs:List PV} {us:List Value} {g p off:Nat} {v:PV} (hr:LRL w im ρ cs us)
  (hc: ∀j,j<us.length→w.cell? ⟨g,p+j,none⟩=us[j]?) (hp:Qdf P t cs off=some v):
  ∃u,(loadVar t ⟨g,p+off,none⟩).run P w= .ok u w∧LR w im ρ v u:=by
 unfold Qdf at hp;split at hp
 ·rename_i hok;obtain⟨h1,i,h2⟩:=Qyu hok;split at hp
  ·rename_i ha;split at hp
   ·rename_i hlen;cases hp;have hl:=hr.length;have hn:((us.drop off).take (P.cellsOf t)).length=i.size:=by rw [←Qgp h2];simp;omega
    have hrun:=run_loadCells_list (P:=P) w ⟨g,p+off,none⟩ ((us.drop off).take (P.cellsOf t)) (by
     intro j u hu;have hj:j<((us.drop off).take (P.cellsOf t)).length:=(List.getElem?_eq_some_iff.1 hu).1;have e:(⟨g,p+off,none⟩:Addr).add j=⟨g,p+(off+j),none⟩:=by unfold Addr.add;split<;>simp_all;omega
     rw [e,hc _ (by simp at hj;omega),←hu];simp only [List.getElem?_take,List.getElem?_drop];rw [if_pos (by simp at hj;omega)])
    rw [hn]at hrun;refine⟨.agg ((us.drop off).take (P.cellsOf t)).toArray,?_,.agg _ _ ((hr.drop off).take _)⟩;simp only [loadVar,Sem.run_bind,Qhg h1,Result.andThen_ok,ha,if_true,Qa5 h2,hrun,Sem.run_pure]
   ·cases hp
  ·rename_i ha;obtain⟨u,hu,hru⟩:=hr.get off v hp;refine⟨u,?_,hru⟩;have hj:off<us.length:=(List.getElem?_eq_some_iff.1 hu).1;simp [loadVar,Qhg h1,ha,hc off hj,hu]
 ·cases hp
mutual
theorem Qja {im:Im} {v:Value} {x:PV} (h:Qep v=some x):Rep w im x v:=by
 unfold Qep at h;split at h<;>try cases h
 ·exact .bool _
 ·exact .int _ _
 ·exact .str _
 ·exact .nilS
 ·exact .nilF
 ·exact .nilI
 ·exact .nilM
 ·exact .nilP
 ·rename_i f a b;split at h
  ·rename_i hab;cases h;obtain⟨ha,hb⟩:=hab;have ea:a=[].toArray:=by simpa using ha
   have eb:b=[].toArray:=by simpa using hb
   rw [ea,eb];exact .fn f [] [] [] [] .nil .nil
  ·cases h
end
theorem Qhr {im:Im}: ∀{vs:List Value} {xs:List PV},Qci vs=some xs→RepL w im xs vs
 | [],xs,h=>by simp [Qci]at h;subst h;exact .nil
 |v::vs,xs,h=>by
  unfold Qci at h;split at h
  ·rename_i x ys e1 e2;cases h;exact .cons _ _ _ _ (Qja e1) (Qhr e2)
  ·cases h
theorem Qco {im:Im} {v:Value} {x:PV} (h:Qfm v=some x):Rep w im x v:=by
 unfold Qfm at h;split at h
 ·rename_i cs;cases e:Qci cs.toList with
  |none=>rw [e]at h;cases h
  |some xs=>rw [e]at h;cases h;simpa using Rep.agg xs cs.toList (Qhr e)
 ·rename_i cs;split at h
  ·rename_i h0;cases h;have:cs=[].toArray:=by simpa using h0
   rw [this];exact .tup [] [] .nil
  ·cases h
 ·exact Qja h
theorem Qs2 {C:Ctx} {st:St} {a:Act} {w:World} {ρ:Rho} {im:Im} (h:Rel' C st a w ρ im) {x:Operand} {v:PV} (hv:st.ev x=some v):LR w im ρ v (a.eval x):=by
 cases x with
 |tmp t=>exact h.var t v hv
 |const c=>exact .ext _ _ (Qco hv)
 |func f=>
  simp only [St.ev,Option.some.injEq]at hv;subst hv;exact .ext _ _ (.fn f [] [] [] [] .nil .nil)
 |global g=>cases hv
theorem Qm4 {C:Ctx} {st:St} {a:Act} {w:World} {ρ:Rho} {im:Im} (h:Rel' C st a w ρ im): ∀{xs:List Operand} {vs:List PV},st.evs xs=some vs→LRL w im ρ vs (xs.map a.eval)
 | [],vs,e=>by simp [St.evs]at e;subst e;exact .nil
 |x::xs,vs,e=>by
  unfold St.evs at e;split at e
  ·cases e
  ·rename_i v e1;split at e
   ·cases e
   ·rename_i us e2;cases e;exact .cons _ _ _ _ (Qs2 h e1) (Qm4 h e2)
end
section
variable {P:Program} {w:World} {im:Im} {ρ:Rho} {a:Act} {o:Oper}
theorem Qbq {t e:TypeId} (h:Qbl P t=some e):P.underlying t=some (.slice e):=by
 unfold Qbl at h;split at h
 ·rename_i x hx;cases h;exact hx
 ·cases h
theorem Qjb {t:TypeId} {q:Nat×TypeId} (h:Qfl P t=some q):P.underlying t=some (.array q.1 q.2):=by
 unfold Qfl at h;split at h
 ·rename_i n x hx;cases h;exact hx
 ·cases h
theorem Qbh {t:TypeId} {q:Nat×Nat} (h:Qap P t=some q): ∃i,P.info? t=some i∧i.size=q.1∧i.bytes=q.2:=by
 unfold Qap at h;cases hi:P.info? t with
 |none=>rw [hi]at h;cases h
 |some i=>rw [hi]at h;cases h;exact⟨i,rfl,rfl,rfl⟩
theorem Qm5 {t:TypeId} {f:Nat} {q:Nat×TypeId×Nat} (h:Qaq P t f=some q):
  ∃fs x i,P.underlying t=some (.struct fs)∧fs[f]? =some x∧P.info? x.type=some i∧i.size≠0∧q=(x.offset,x.type,i.size):=by
 unfold Qaq at h;split at h
 ·rename_i fs hfs;split at h
  ·rename_i x hx;split at h
   ·rename_i i hi;split at h
    ·cases h
    ·rename_i hz;cases h;exact⟨fs,x,i,hfs,hx,hi,hz,rfl⟩
   ·cases h
  ·cases h
 ·cases h
def Calm (P:Program) (w:World) (im:Im) (ρ:Rho) (a:Act) (o:Oper) (v:PV):Prop:=
 ∃u,(execOp a.eval o).run P w= .ok (.value u) w∧LR w im ρ v u
theorem Zcg {x:Operand} {v:PV} (ho:o.op= .move x) (hv:LR w im ρ v (a.eval x)):Calm P w im ρ a o v:=⟨_,by simp [execOp,ho],hv⟩
theorem Qwh {x:Operand} {v:PV} (ho:o.op= .assign x) (hv:LR w im ρ v (a.eval x)):Calm P w im ρ a o v:=⟨_,by simp [execOp,ho],hv⟩
theorem Zch {c x y:Operand} {b:Bool} {v v':PV} (ho:o.op= .pick c x y) (hc:LR w im ρ (.bool b) (a.eval c)) (hv:LR w im ρ v (a.eval x)) (hv':LR w im ρ v' (a.eval y)):
  Calm P w im ρ a o (if b then v else v'):=by
 have e:=hc.bool_inv;cases b
 ·exact⟨a.eval y,by simp [execOp,ho,e,asBool],by simpa using hv'⟩
 ·exact⟨a.eval x,by simp [execOp,ho,e,asBool],by simpa using hv⟩
theorem Qlb {x:Operand} {b esz i off:Nat} (ho:o.op= .nilCheck x) (hv:LR w im ρ (.bp b esz i off) (a.eval x)):Calm P w im ρ a o (.bp b esz i off):=by
 obtain⟨g,_,e⟩:=hv.bp_inv;exact⟨a.eval x,by simp [execOp,ho,e],hv⟩
theorem Qlc {x:Operand} {cs:List PV} (ho:o.op= .nilCheck x) (hv:LR w im ρ (.rp cs) (a.eval x)):Calm P w im ρ a o (.rp cs):=by
 obtain⟨g,p,e⟩: ∃g p,a.eval x= .pointer (some ⟨g,p,none⟩):=by
  have h:=hv.rp_inv;generalize a.eval x=u at*;cases h;exact⟨_,_,rfl⟩
 exact⟨a.eval x,by simp [execOp,ho,e],hv⟩
theorem Qld {x:Operand} {f:FuncId} {first cap:List PV} (ho:o.op= .nilCheck x) (hv:LR w im ρ (.fn f first cap) (a.eval x)):Calm P w im ρ a o (.fn f first cap):=by
 obtain⟨_,_,e,_⟩:=hv.fn_inv;exact⟨a.eval x,by simp [execOp,ho,e],hv⟩
theorem Q2l {op:BinOp} {k:IntKind} {x y:Int} {v:PV} (h:Qdh op k x y=some v):
  ∃u,(match op with
   | .add| .sub| .mul=>Op.intArith op k x y
   | .quo| .rem=>Op.intDiv op k x y
   | .and| .or| .xor| .andNot=>Op.intBits op k x y
   |_=>Op.intCmp op x y).run P w= .ok u w∧Rep w im v u:=by
 cases op<;>simp only [Qdh,Qko,Option.map_some,Option.map_none,Option.some.injEq]at h<;>try (cases h;done)
 case quo=>split at h<;>cases h;rename_i hy;exact⟨_,by simp [Op.intDiv,hy],.int _ _⟩
 case rem=>split at h<;>cases h;rename_i hy;exact⟨_,by simp [Op.intDiv,hy],.int _ _⟩
 case add=>subst h;exact⟨_,by simp [Op.intArith],.int _ _⟩
 case sub=>subst h;exact⟨_,by simp [Op.intArith],.int _ _⟩
 case mul=>subst h;exact⟨_,by simp [Op.intArith],.int _ _⟩
 case and=>subst h;exact⟨_,by simp [Op.intBits],.int _ _⟩
 case or=>subst h;exact⟨_,by simp [Op.intBits],.int _ _⟩
 case xor=>subst h;exact⟨_,by simp [Op.intBits],.int _ _⟩
 case andNot=>subst h;exact⟨_,by simp [Op.intBits],.int _ _⟩
 case eql=>subst h;exact⟨_,by simp [Op.intCmp],.bool _⟩
 case neq=>subst h;exact⟨_,by simp [Op.intCmp],.bool _⟩
 case lss=>subst h;exact⟨_,by simp [Op.intCmp],.bool _⟩
 case leq=>subst h;exact⟨_,by simp [Op.intCmp],.bool _⟩
 case gtr=>subst h;exact⟨_,by simp [Op.intCmp],.bool _⟩
 case geq=>subst h;exact⟨_,by simp [Op.intCmp],.bool _⟩
theorem Qkt {op:BinOp} {k yk:IntKind} {x y:Int} {v:PV} (h:Qhf op k x y=some v):
  ∃u,(Op.shift op k x yk y).run P w= .ok u w∧Rep w im v u:=by
 unfold Qhf at h;split at h
 ·cases h
 ·rename_i hy;cases op<;>simp only [Option.some.injEq]at h<;>try (cases h;done)
  case shl=>subst h;exact⟨_,by simp [Op.shift,hy],.int _ _⟩
  case shr=>subst h;exact⟨_,by simp [Op.shift,hy],.int _ _⟩
theorem Q2m {op:BinOp} {x y:ByteArray} {v:PV} (h:Qo4 op x y=some v): ∃u,(Op.stringOp op x y).run P w= .ok u w∧Rep w im v u:=by
 cases op<;>simp only [Qo4,Option.some.injEq]at h<;>try (cases h;done)
 case add=>
  split at h
  ·cases h
  ·rename_i hh;cases h;exact⟨_,by simp only [Op.stringOp,hh,if_false];rfl,.str _⟩
 case eql=>subst h;exact⟨_,by simp [Op.stringOp],.bool _⟩
 case neq=>subst h;exact⟨_,by simp [Op.stringOp],.bool _⟩
 case lss=>subst h;exact⟨_,by simp [Op.stringOp],.bool _⟩
 case leq=>subst h;exact⟨_,by simp [Op.stringOp],.bool _⟩
 case gtr=>subst h;exact⟨_,by simp [Op.stringOp],.bool _⟩
 case geq=>subst h;exact⟨_,by simp [Op.stringOp],.bool _⟩
theorem Qbk {op:BinOp} {t:TypeId} {x y:Operand} {p q:Value} (h1:p.oneCell'=true) (h2:p≠ .nilIface):(eqGuard op t x y p q).run P w= .ok () w:=by
 cases p<;>first|(simp [Value.oneCell']at h1;done)|exact absurd rfl h2|(unfold eqGuard;cases op<;>cases q<;>rfl)
theorem Qs3 {t:TypeId} {p q:Bool} (hu:P.underlying t=some .bool) (d:Nat):(Op.equalIn (d+1) t (.bool p) (.bool q)).run P w= .ok (p==q) w:=by
 simp [Op.equalIn,run_underlying hu]
theorem Qo5 {t:TypeId} {p q:Bool} (hu:P.underlying t=some .bool):(Op.equal t (.bool p) (.bool q)).run P w= .ok (p==q) w:=Qs3 hu 9999
theorem Qj4 {op:BinOp} {t ty:TypeId} {x y:Operand} {b:Bool} {r:PV} {p:Value} (hr:Qi5 op t P b=some r) (ho:o.op= .binOp op t x y ty) (hp:a.eval x=p) (hp1:p.oneCell'=true) (hp2:p≠ .nilIface)
  (hq:a.eval y= .slice none 0 0) (he:(∃e,P.underlying t=some (.slice e))→(Op.equal t p (.slice none 0 0)).run P w= .ok b w):Calm P w im ρ a o r:=by
 unfold Qi5 at hr;split at hr
 ·rename_i e hu;cases hr;refine⟨.bool b,?_,.ext _ _ (.bool _)⟩;simp only [execOp,ho,hp,hq,Sem.run_bind,Qbk (P:=P) (w:=w) hp1 hp2,Result.andThen_ok];simp [binOp,he ⟨e,hu⟩]
 ·rename_i e hu;cases hr;refine⟨.bool !b,?_,.ext _ _ (.bool _)⟩;simp only [execOp,ho,hp,hq,Sem.run_bind,Qbk (P:=P) (w:=w) hp1 hp2,Result.andThen_ok];simp [binOp,he ⟨e,hu⟩]
 ·cases hr
theorem Qle {t e:TypeId} {ad:Option Addr} {l c:Nat} (hu:P.underlying t=some (.slice e)) (d:Nat):(Op.equalIn (d+1) t (.slice ad l c) (.slice none 0 0)).run P w= .ok ad.isNone w:=by
 cases ad<;>simp [Op.equalIn,run_underlying hu]
theorem Qc6 {t e:TypeId} {ad:Option Addr} {l c:Nat} (hu:P.underlying t=some (.slice e)):(Op.equal t (.slice ad l c) (.slice none 0 0)).run P w= .ok ad.isNone w:=Qle hu 9999
theorem Qqt {t:TypeId} {f:Value} (hf: ∃fv a b,f= .func fv a b) (hu:tyFn P t=true) (d:Nat):(Op.equalIn (d+1) t f .nilFunc).run P w= .ok false w:=by
 obtain⟨fv,a,b,rfl⟩:=hf;unfold tyFn at hu;split at hu
 ·rename_i e;simp [Op.equalIn,run_underlying e]
 ·cases hu
theorem Qm6 {t:TypeId} {f:Value} (hf: ∃fv a b,f= .func fv a b) (hu:tyFn P t=true):(Op.equal t f .nilFunc).run P w= .ok false w:=Qqt hf hu 9999
theorem Qn8 {t e:TypeId} {p:Option Addr} (hu:P.underlying t=some (.pointer e)) (d:Nat):(Op.equalIn (d+1) t (.pointer p) (.pointer none)).run P w= .ok p.isNone w:=by
 cases p<;>simp [Op.equalIn,run_underlying hu]
theorem Qku {t e:TypeId} {p:Option Addr} (hu:P.underlying t=some (.pointer e)):(Op.equal t (.pointer p) (.pointer none)).run P w= .ok p.isNone w:=Qn8 hu 9999
theorem Qj5 {op:BinOp} {t ty:TypeId} {x y:Operand} {r:PV} {p:Option Addr} {b:Bool} (hr:Qi6 op (Qn6 P t) b=some r) (ho:o.op= .binOp op t x y ty) (hp:a.eval x= .pointer p) (hq:a.eval y= .pointer none) (hb:p.isNone=b):Calm P w im ρ a o r:=by
 unfold Qi6 at hr;split at hr
 ·rename_i hu;cases hr;unfold Qn6 at hu;split at hu
  ·rename_i e he;refine⟨.bool b,?_,.ext _ _ (.bool _)⟩;simp only [execOp,ho,hp,hq,Sem.run_bind,Qbk (P:=P) (w:=w) (p:= .pointer p) rfl (by simp),Result.andThen_ok];simp [binOp,Qku he,hb]
  ·cases hu
 ·rename_i hu;cases hr;unfold Qn6 at hu;split at hu
  ·rename_i e he;refine⟨.bool !b,?_,.ext _ _ (.bool _)⟩;simp only [execOp,ho,hp,hq,Sem.run_bind,Qbk (P:=P) (w:=w) (p:= .pointer p) rfl (by simp),Result.andThen_ok];simp [binOp,Qku he,hb]
  ·cases hu
 ·cases hr
theorem LR.nilP_inv {u:Value} (h:LR w im ρ .nilP u):u= .pointer none:=by
 cases h with
 |ext _ _ h=>cases h;rfl
theorem Zmq {op:BinOp} {t ty:TypeId} {x y:Operand} {v v' r:PV} (ho:o.op= .binOp op t x y ty) (hx:LR w im ρ v (a.eval x)) (hy:LR w im ρ v' (a.eval y))
  (hr:Qbp op t P v v'=some r):Calm P w im ρ a o r:=by
 unfold Qbp at hr;split at hr
 ·rename_i k p k' q;have e1:=hx.int_inv;have e2:=hy.int_inv;split at hr
  ·obtain⟨u,hu,hru⟩:=Qkt (P:=P) (w:=w) (im:=im) (yk:=k') hr;refine⟨u,?_,.ext _ _ hru⟩;simp [execOp,ho,e1,e2,eqGuard,binOp,hu]
  ·obtain⟨u,hu,hru⟩:=Qkt (P:=P) (w:=w) (im:=im) (yk:=k') hr;refine⟨u,?_,.ext _ _ hru⟩;simp [execOp,ho,e1,e2,eqGuard,binOp,hu]
  ·rename_i n1 n2;split at hr
   ·rename_i hk;subst hk;obtain⟨u,hu,hru⟩:=Q2l (P:=P) (w:=w) (im:=im) hr;refine⟨u,?_,.ext _ _ hru⟩;simp only [execOp,ho,e1,e2];simp only [Sem.run_bind,Qbk (P:=P) (w:=w) (p:= .int k p) rfl (by simp),Result.andThen_ok];cases op<;>simp_all [binOp]
   ·cases hr
 ·rename_i p q;have e1:=hx.str_inv;have e2:=hy.str_inv;obtain⟨u,hu,hru⟩:=Q2m (P:=P) (w:=w) (im:=im) hr;refine⟨u,?_,.ext _ _ hru⟩;simp only [execOp,ho,e1,e2,Sem.run_bind,Qbk (P:=P) (w:=w) (p:= .string p) rfl (by simp),Result.andThen_ok];cases op<;>simp_all [binOp]
 ·rename_i p q;have e1:=hx.bool_inv;have e2:=hy.bool_inv;split at hr
  ·rename_i hu;cases hr;refine⟨.bool (p==q),?_,.ext _ _ (.bool _)⟩;simp only [execOp,ho,e1,e2,Sem.run_bind,Qbk (P:=P) (w:=w) (p:= .bool p) rfl (by simp),Result.andThen_ok];simp [binOp,Qo5 hu]
  ·rename_i hu;cases hr;refine⟨.bool !(p==q),?_,.ext _ _ (.bool _)⟩;simp only [execOp,ho,e1,e2,Sem.run_bind,Qbk (P:=P) (w:=w) (p:= .bool p) rfl (by simp),Result.andThen_ok];simp [binOp,Qo5 hu]
  ·cases hr
 ·rename_i xs ys;obtain⟨us,e1,h1⟩:=hx.agg_inv;obtain⟨vs,e2,h2⟩:=hy.agg_inv;split at hr
  case h_2=>cases hr
  rename_i sh hsh0;unfold Qb4 at hsh0;split at hsh0
  ·cases hsh0
  rename_i hg;have hg:P.eqGuardType P.depth t=false:=by simpa using hg
  split at hsh0
  case h_2=>cases hsh0
  rename_i fs0 hfs0;have hsh:=hsh0;have hst: ∀b,Qat sh xs ys=some b→(∃fs,P.underlying t=some (.struct fs))→(Op.equal t (.agg us.toArray) (.agg vs.toArray)).run P w= .ok b w:=by
   rintro b hb ⟨fs,hfs⟩;exact Qfs Op.maxDepth t sh xs ys us vs _ _ b hsh hb h1 h2 (fun _=>⟨rfl,rfl⟩) (fun hh=>by rw [hfs]at hh;cases hh)
  have hfs: ∀b,Qat sh xs ys=some b→ ∃fs,P.underlying t=some (.struct fs):=fun _ _=>⟨_,hfs0⟩;have hgd: ∀x y,(eqGuard op t x y (.agg us.toArray) (.agg vs.toArray)).run P w= .ok () w:=by
   intro x y;cases op<;>simp [eqGuard,hg]
  split at hr<;>cases hr
  ·rename_i b hb;refine⟨.bool b,?_,.ext _ _ (.bool _)⟩;simp only [execOp,ho,e1,e2,Sem.run_bind,hgd,Result.andThen_ok];simp [binOp,hst b hb (hfs b hb)]
  ·rename_i b hb;refine⟨.bool !b,?_,.ext _ _ (.bool _)⟩;simp only [execOp,ho,e1,e2,Sem.run_bind,hgd,Result.andThen_ok];simp [binOp,hst b hb (hfs b hb)]
 ·exact Qj4 hr ho hx.nilS_inv rfl (by simp) hy.nilS_inv (fun⟨e,hu⟩=>by rw [Qc6 hu];rfl)
 ·rename_i es;split at hr
  ·rename_i hes;obtain rfl:es=[]:=List.isEmpty_iff.1 hes;have h1:=hx.slc_inv;have key: ∃ad l c,a.eval x= .slice ad l c:=by
    generalize a.eval x=u at h1;cases h1 with
    |slcNil c hm=>exact⟨_,_,_,rfl⟩
    |slcE p cap hm=>exact⟨_,_,_,rfl⟩
    |slc es g off len cap sz vs=>exact⟨_,_,_,rfl⟩
   obtain⟨ad,l,c,hg⟩:=key;unfold Qyt at hr;split at hr
   ·rename_i e hu;cases hr;refine⟨.bool ad.isNone,?_,.ext _ _ (.anyB _)⟩;simp only [execOp,ho,hg,hy.nilS_inv,Sem.run_bind,Qbk (P:=P) (w:=w) (p:= .slice ad l c) rfl (by simp),Result.andThen_ok];simp [binOp,Qc6 hu]
   ·rename_i e hu;cases hr;refine⟨.bool !ad.isNone,?_,.ext _ _ (.anyB _)⟩;simp only [execOp,ho,hg,hy.nilS_inv,Sem.run_bind,Qbk (P:=P) (w:=w) (p:= .slice ad l c) rfl (by simp),Result.andThen_ok];simp [binOp,Qc6 hu]
   ·cases hr
  ·rename_i hes;have h1:=hx.slc_inv;have key: ∃g l c,a.eval x= .slice (some g) l c:=by
    generalize a.eval x=u at h1;cases h1 with
    |slcNil c hm=>simp at hes
    |slcE p cap hm=>simp at hes
    |slc es g off len cap sz vs=>exact⟨_,_,_,rfl⟩
   obtain⟨g,l,c,hg⟩:=key;exact Qj4 hr ho hg rfl (by simp) hy.nilS_inv (fun⟨e,hu⟩=>by rw [Qc6 hu];rfl)
 ·rename_i b esz off len;split at hr
  ·cases hr
  ·rename_i hes;have key: ∃g l c,a.eval x= .slice (some g) l c:=by
    generalize a.eval x=u at hx;cases hx with
    |ext _ _ h=>cases h
    |bsNil=>simp at hes
    |bs=>exact⟨_,_,_,rfl⟩
   obtain⟨g,l,c,hg⟩:=key;exact Qj4 hr ho hg rfl (by simp) hy.nilS_inv (fun⟨e,hu⟩=>by rw [Qc6 hu];rfl)
 ·rename_i f first cap
  obtain⟨c1,c2,e1, -, -⟩:=hx.fn_inv;have e2:a.eval y= .nilFunc:=by
   generalize a.eval y=u at hy;cases hy with
   |ext _ _ h=>cases h;rfl
  unfold Zmp at hr;split at hr
  ·rename_i hu;cases hr;refine⟨.bool false,?_,.ext _ _ (.bool _)⟩;simp only [execOp,ho,e1,e2,Sem.run_bind,Qbk (P:=P) (w:=w) (p:= .func (.func f) c1.toArray c2.toArray) rfl (by simp),Result.andThen_ok];simp [binOp,Qm6 ⟨_,_,_,rfl⟩ hu]
  ·rename_i hu;cases hr;refine⟨.bool true,?_,.ext _ _ (.bool _)⟩;simp only [execOp,ho,e1,e2,Sem.run_bind,Qbk (P:=P) (w:=w) (p:= .func (.func f) c1.toArray c2.toArray) rfl (by simp),Result.andThen_ok];simp [binOp,Qm6 ⟨_,_,_,rfl⟩ hu]
  ·cases hr
 ·have key: ∃g,a.eval x= .pointer (some g):=by
   generalize a.eval x=u at hx;cases hx with
   |ext _ _ h=>cases h
   |bp=>exact⟨_,rfl⟩
  obtain⟨g,hg⟩:=key;exact Qj5 hr ho hg hy.nilP_inv rfl
 ·have key: ∃g,a.eval x= .pointer (some g):=by
   generalize a.eval x=u at hx;cases hx with
   |ext _ _ h=>cases h;exact⟨_,rfl⟩
  obtain⟨g,hg⟩:=key;exact Qj5 hr ho hg hy.nilP_inv rfl
 ·exact Qj5 hr ho hx.nilP_inv hy.nilP_inv rfl
 ·cases hr
theorem Zvs {op:UnOp} {t:TypeId} {x:Operand} {v r:PV} (ho:o.op= .unOp op t x) (hx:LR w im ρ v (a.eval x)) (hr:unPV op v=some r):Calm P w im ρ a o r:=by
 unfold unPV at hr;split at hr<;>try (cases hr;done)
 ·cases hr;exact⟨_,by simp [execOp,ho,hx.int_inv,Op.unary,Op.intArith],.ext _ _ (.int _ _)⟩
 ·cases hr;exact⟨_,by simp [execOp,ho,hx.int_inv,Op.unary,Op.intBits],.ext _ _ (.int _ _)⟩
 ·cases hr;exact⟨_,by simp [execOp,ho,hx.bool_inv,Op.unary],.ext _ _ (.bool _)⟩
theorem Zci {s d:TypeId} {x:Operand} {v r:PV} (ho:o.op= .convert s d x) (hx:LR w im ρ v (a.eval x)) (hr:Qm3 P s d v=some r):Calm P w im ρ a o r:=by
 unfold Qm3 at hr;split at hr<;>try (cases hr;done)
 rename_i k1 k2 k n h1 h2;cases hr;refine⟨_,?_,.ext _ _ (.int _ _)⟩;simp [execOp,ho,hx.int_inv,convert,run_underlying h1,run_underlying h2,Conv.intToInt]
theorem Qqu {f:FuncId} {first cap:Array Operand} {vs:List PV} (ho:o.op= .makeFunc (.func f) first cap) (hx:LRL w im ρ vs ((first++cap).toList.map a.eval)):
  Calm P w im ρ a o (.fn f (vs.take first.size) (vs.drop first.size)):=by
 refine⟨.func (.func f) (first.toList.map a.eval).toArray (cap.toList.map a.eval).toArray,?_,?_⟩
 ·simp [execOp,ho,Instr.makeFunc];constructor<;>(apply Array.ext';simp)
 ·have h1:=hx.take first.size
  have h2:=hx.drop first.size
  have e1:((first++cap).toList.map a.eval).take first.size=first.toList.map a.eval:=by simp
  have e2:((first++cap).toList.map a.eval).drop first.size=cap.toList.map a.eval:=by simp
  rw [e1]at h1;rw [e2]at h2;exact .fn f _ _ _ _ h1 h2
theorem Qs4 {x:Operand} {i:Nat} {vs:List PV} {v:PV} (ho:o.op= .extract x i) (hx:LR w im ρ (.tup vs) (a.eval x)) (hv:vs[i]? =some v):Calm P w im ρ a o v:=by
 obtain⟨us,e,hr⟩:=hx.tup_inv;obtain⟨u,hu,hru⟩:=hr.get i v hv;exact⟨u,by simp [execOp,ho,e,Instr.extract,hu],hru⟩
theorem Q2n {t:TypeId} {x:Operand} {f:Nat} {cs:List PV} {q:Nat×TypeId×Nat} {v:PV} (ho:o.op= .field t x f) (hx:LR w im ρ (.agg cs) (a.eval x)) (hq:Qaq P t f=some q)
  (hv:Qdf P q.2.1 cs q.1=some v):Calm P w im ρ a o v:=by
 obtain⟨us,e,hr⟩:=hx.agg_inv;obtain⟨fs,fx,i,h1,h2,h3,h4,rfl⟩:=Qm5 hq;obtain⟨u,hu,hru⟩:=Qyv (P:=P) (w:=w) hr hv;exact⟨u,by simp [execOp,ho,e,Instr.field,run_underlying h1,h2,asAgg,hu],hru⟩
theorem Qfq (g p n:Nat):(⟨g,p,none⟩:Addr).add n=⟨g,p+n,none⟩:=by unfold Addr.add;split<;>simp_all
theorem Zcj {cs:List PV} {g p:Nat} {n:Nat} (h:Rep w im (.rp cs) (.pointer (some ⟨g,p,none⟩))):Rep w im (.rp (cs.drop n)) (.pointer (some ⟨g,p+n,none⟩)):=by
 cases h with
 |rp _ _ _ vs hi hc hr=>
  refine .rp _ _ _ (vs.drop n) ?_ ?_ (hr.drop n)
  ·intro j hj;have:=hi (n+j) (by simp at hj;omega)
   rwa [←Nat.add_assoc]at this
  ·intro j hj;have:=hc (n+j) (by simp at hj;omega);rw [←Nat.add_assoc]at this;rw [this,List.getElem?_drop]
theorem Zck {cs:List PV} {u:Value} (h:Rep w im (.rp cs) u): ∃g p,u= .pointer (some ⟨g,p,none⟩):=by cases h;exact⟨_,_,rfl⟩
theorem Qm7 {t:TypeId} {f g p:Nat} {q:Nat×TypeId×Nat} (hq:Qaq P t f=some q):
  (Instr.fieldAt t (.pointer (some ⟨g,p,none⟩)) f).run P w= .ok (.pointer (some ⟨g,p+q.1,none⟩)) w:=by
 obtain⟨fs,fx,i,h1,h2,h3,h4,rfl⟩:=Qm5 hq;simp [Instr.fieldAt,run_underlying h1,h2,Instr.sureAddr,fieldPlace,Qa5 h3,h4,Qfq]
theorem Qj6 {t:TypeId} {x:Operand} {f b esz i off:Nat} {q:Nat×TypeId×Nat} (ho:o.op= .fieldAddr t x f) (hx:LR w im ρ (.bp b esz i off) (a.eval x)) (hq:Qaq P t f=some q):
  Calm P w im ρ a o (.bp b esz i (off+q.1)):=by
 obtain⟨g,hg,e⟩:=hx.bp_inv;exact⟨.pointer (some ⟨g,i*esz+off+q.1,none⟩),by simp [execOp,ho,e,Qm7 hq],.bp _ _ _ _ g _ hg (by omega)⟩
theorem Qj7 {t:TypeId} {x:Operand} {f:Nat} {cs:List PV} {q:Nat×TypeId×Nat} (ho:o.op= .fieldAddr t x f) (hx:LR w im ρ (.rp cs) (a.eval x)) (hq:Qaq P t f=some q):
  Calm P w im ρ a o (.rp (cs.drop q.1)):=by
 have hr:=hx.rp_inv;obtain⟨g,p,e⟩:=Zck hr;rw [e]at hr;exact⟨_,by simp [execOp,ho,e,Qm7 hq],.ext _ _ (Zcj hr)⟩
theorem Qgq {t e:TypeId} {n:Nat} {j:TypeInfo} {k:IntKind} {i:Int} {g p:Nat} (ht:P.underlying t=some (.array n e)) (hj:P.info? e=some j) (h0:0≤i) (h1:i<n):
  (Instr.indexAt t (.pointer (some ⟨g,p,none⟩)) (.int k i)).run P w= .ok (.pointer (some ⟨g,p+i.toNat*j.size,none⟩)) w:=by
 simp [Instr.indexAt,asIntOf,run_underlying ht,Instr.sureAddr,h0,h1,Qa5 hj,Qfq]
theorem Qe9 {t e:TypeId} {n c:Nat} {j:TypeInfo} {k:IntKind} {i:Int} {g p:Nat} (ht:P.underlying t=some (.slice e)) (hj:P.info? e=some j) (h0:0≤i) (h1:i<n):
  (Instr.indexAt t (.slice (some ⟨g,p,none⟩) n c) (.int k i)).run P w= .ok (.pointer (some ⟨g,p+i.toNat*j.size,none⟩)) w:=by
 simp [Instr.indexAt,asIntOf,run_underlying ht,h0,h1,Qa5 hj,Qfq]
theorem Qj8 {t:TypeId} {x y:Operand} {b esz k off:Nat} {ik:IntKind} {i:Int} {q:Nat×TypeId} {s:Nat×Nat} (ho:o.op= .indexAddr t x y) (hx:LR w im ρ (.bp b esz k off) (a.eval x))
  (hy:LR w im ρ (.int ik i) (a.eval y)) (hq:Qfl P t=some q) (hs:Qap P q.2=some s) (h0:0≤i) (h1:i<q.1):Calm P w im ρ a o (.bp b esz k (off+i.toNat*s.1)):=by
 obtain⟨g,hg,e⟩:=hx.bp_inv;obtain⟨j,hj,hj1,_⟩:=Qbh hs;refine⟨_,?_,.bp _ _ _ _ g _ hg rfl⟩;simp [execOp,ho,e,hy.int_inv,Qgq (Qjb hq) hj h0 h1,hj1,Nat.add_assoc]
theorem Qj9 {t:TypeId} {x y:Operand} {cs:List PV} {ik:IntKind} {i:Int} {q:Nat×TypeId} {s:Nat×Nat} (ho:o.op= .indexAddr t x y) (hx:LR w im ρ (.rp cs) (a.eval x))
  (hy:LR w im ρ (.int ik i) (a.eval y)) (hq:Qfl P t=some q) (hs:Qap P q.2=some s) (h0:0≤i) (h1:i<q.1):Calm P w im ρ a o (.rp (cs.drop (i.toNat*s.1))):=by
 have hr:=hx.rp_inv;obtain⟨g,p,e⟩:=Zck hr;rw [e]at hr;obtain⟨j,hj,hj1,_⟩:=Qbh hs;refine⟨_,?_,.ext _ _ (Zcj hr)⟩;simp [execOp,ho,e,hy.int_inv,Qgq (Qjb hq) hj h0 h1,hj1]
theorem Qka {t:TypeId} {x y:Operand} {b esz off len:Nat} {ik:IntKind} {i:Int} {E:TypeId} {s:Nat×Nat} (ho:o.op= .indexAddr t x y) (hx:LR w im ρ (.bs b esz off len) (a.eval x))
  (hy:LR w im ρ (.int ik i) (a.eval y)) (hq:Qbl P t=some E) (hs:Qap P E=some s) (hse:s.1=esz) (h0:0≤i) (h1:i<len):Calm P w im ρ a o (.bp b esz (off+i.toNat) 0):=by
 obtain⟨j,hj,hj1,_⟩:=Qbh hs;rcases hx.bs_inv with⟨_,_,_,h⟩|⟨g,cap,cur,e',hg,e,_,_,_,_⟩
 ·omega
 ·refine⟨_,?_,.bp _ _ _ _ g _ hg rfl⟩;simp [execOp,ho,e,hy.int_inv,Qe9 (Qbq hq) hj h0 h1,hj1,hse,Nat.add_mul]
theorem Qjc {t:TypeId} {x y:Operand} {es:List PV} {ik:IntKind} {i:Int} {E:TypeId} {s:Nat×Nat} {el:PV} (ho:o.op= .indexAddr t x y) (hx:LR w im ρ (.slc es) (a.eval x))
  (hy:LR w im ρ (.int ik i) (a.eval y)) (hq:Qbl P t=some E) (hs:Qap P E=some s) (h0:0≤i) (hel:es[i.toNat]? =some el) (hz:el.cells.length=s.1):Calm P w im ρ a o (.rp el.cells):=by
 obtain⟨j,hj,hj1,_⟩:=Qbh hs;have hr:=hx.slc_inv;have hlt:i.toNat<es.length:=(List.getElem?_eq_some_iff.1 hel).1;generalize hu:a.eval x=u at*;cases hr with
 |slcNil c hm=>simp at hlt
 |slcE p cap hm=>simp at hlt
 |slc _ g off len cap sz vs hn hm hzz hi hc hrl hcap=>
  have hsz:sz=s.1:=by rw [←hz];exact(hzz el (List.mem_of_getElem? hel)).symm
  subst hsz;have hfl:=Qau hzz;have hvl:=hrl.length;have hmul:i.toNat*s.1+s.1≤es.length*s.1:=by rw [←Nat.succ_mul];exact Nat.mul_le_mul_right _ hlt
  refine⟨.pointer (some ⟨g,off+i.toNat*s.1,none⟩),?_,.ext _ _ ?_⟩
  ·simp [execOp,ho,hu,hy.int_inv,Qe9 (w:=w) (P:=P) (c:=cap) (g:=g) (p:=off) (k:=ik) (Qbq hq) hj h0 (show i<len by omega),hj1]
  ·have hcut:((es.flatMap PV.cells).drop (i.toNat*s.1)).take s.1=el.cells:=by
    apply List.ext_getElem?;intro j;simp only [List.getElem?_take,List.getElem?_drop];split
    ·rename_i hj;exact Qlr hzz hel hj
    ·rw [List.getElem?_eq_none];omega
   have h2:=(hrl.drop (i.toNat*s.1)).take s.1;rw [hcut]at h2;refine .rp _ _ _ _ ?_ ?_ h2
   ·intro j hj;have:=hi (i.toNat*s.1+j) (by simp at hj;omega)
    rwa [←Nat.add_assoc]at this
   ·intro j hj;have:=hc (i.toNat*s.1+j) (by simp at hj;omega);rw [←Nat.add_assoc]at this;rw [this];simp only [List.getElem?_take,List.getElem?_drop];rw [if_pos (by simp at hj;omega)]
theorem Qn9 {t:TypeId} {x y:Operand} {cs:List PV} {ik:IntKind} {i:Int} {q:Nat×TypeId} {s:Nat×Nat} {v:PV} (ho:o.op= .index t x y) (hx:LR w im ρ (.agg cs) (a.eval x))
  (hy:LR w im ρ (.int ik i) (a.eval y)) (hq:Qfl P t=some q) (hs:Qap P q.2=some s) (h0:0≤i) (h1:i<q.1) (hv:Qdf P q.2 cs (i.toNat*s.1)=some v):Calm P w im ρ a o v:=by
 obtain⟨us,e,hr⟩:=hx.agg_inv;obtain⟨j,hj,hj1,_⟩:=Qbh hs;obtain⟨u,hu,hru⟩:=Qyv (P:=P) (w:=w) hr hv;refine⟨u,?_,hru⟩;simp [execOp,ho,e,hy.int_inv,Instr.index,asIntOf,run_underlying (Qjb hq),h0,h1,Qa5 hj,hj1,hu]
theorem Qoa {t:TypeId} {x y:Operand} {s:ByteArray} {ik:IntKind} {i:Int} {c:UInt8} (ho:o.op= .index t x y) (hx:LR w im ρ (.str s) (a.eval x))
  (hy:LR w im ρ (.int ik i) (a.eval y)) (ht:P.underlying t=some .string) (h0:0≤i) (hc:s[i.toNat]? =some c):Calm P w im ρ a o (.int .u8 c.toNat):=by
 refine⟨_,?_,.ext _ _ (.int _ _)⟩;simp [execOp,ho,hx.str_inv,hy.int_inv,Instr.index,asIntOf,run_underlying ht,h0,hc]
theorem Qo6 (mx:Bool): ∀(vs:List PV) (us:List Value) (x v:PV) (u:Value),LRL w im ρ vs us→LR w im ρ x u→Qhp mx x vs=some v→
  ∃u',(us.foldlM (if mx then Builtin.max2 else Builtin.min2) u).run P w= .ok u' w∧LR w im ρ v u'
 | [],us,x,v,u,h,hx,e=>by
  cases h.nil_inv;have:v=x:=by cases x<;>(simp [Qhp]at e;exact e.symm)
  subst this;exact⟨u,by simp,hx⟩
 |y::vs,us,x,v,u,h,hx,e=>by
  obtain⟨uy,us',rfl,hy,ht⟩:=h.cons_inv;unfold Qhp at e;split at e<;>try (cases e;done)
  ·rename_i heq;cases heq
  ·rename_i k p k' q rest heq;cases heq;split at e
   ·rename_i hk;subst hk;have e1:=hx.int_inv;have e2:=hy.int_inv;subst e1;subst e2;obtain⟨u',h1,h2⟩:=Qo6 mx _ us' _ v _ ht (.ext _ _ (.int k _)) e;refine⟨u',?_,h2⟩;cases mx<;>simpa [Builtin.max2,Builtin.min2]using h1
   ·cases e
end
def Qcx (bx:Bx) (st:St):Prop:= ∀b,(bx b).map Box.soft=(st.box b).map Box.soft
theorem Qcx.get {bx:Bx} {st:St} (h:Qcx bx st) {b:Nat} {B:Box} (hb:bx b=some B): ∃B',st.box b=some B'∧B'.soft=B.soft:=by
 have:=h b;rw [hb]at this;cases hs:st.box b with
 |none=>rw [hs]at this;cases this
 |some B'=>rw [hs]at this;exact⟨B',rfl,by simpa using this.symm⟩
theorem Qqv {B B':Box} (h:B'.soft=B.soft):B'.els=B.els∧B'.esz=B.esz∧B'.ety=B.ety∧B'.arr=B.arr:=by
 simp only [Box.soft,SB.mk.injEq]at h;exact h
theorem Qyw {st:St} {b n:Nat} {B:Box} (hB:st.box b=some B):(Eff.fro b n).on st=st.setBox b {B with fro:=max B.fro n,live:=B.live&&true}:=by simp [Eff.on,hB]
theorem Q2o {bx:Bx} {st:St} (h:Qcx bx st) (b n:Nat):Qcx bx ((Eff.fro b n).on st):=by
 intro b';rw [h b'];simp only [Eff.on];split
 ·rename_i B hB;simp only [St.setBox,upd];split
  ·rename_i e;subst e;rw [hB];rfl
  ·rfl
 ·rfl
theorem Zmr {st:St} (b n b':Nat) (h:st.box b'=none):((Eff.fro b n).on st).box b'=none:=by
 simp only [Eff.on];split
 ·rename_i B hB;simp only [St.setBox,upd];split
  ·rename_i e;subst e;rw [h]at hB;cases hB
  ·exact h
 ·exact h
theorem Qav (xs ys:List Eff) (st:St):Qan (xs++ys) st=Qan ys (Qan xs st):=by simp [Qan]
theorem Qbu (st:St):Qan [] st=st:=rfl
theorem Qay (e:Eff) (es:List Eff) (st:St):Qan (e::es) st=Qan es (e.on st):=rfl
structure Gone (C:Ctx) (st st':St) (a:Act) (w:World) (ρ:Rho) (im im':Im) (bx:Bx):Prop where
 rel:Rel' C st' a w ρ im'
 im: ∀g j,im g j→im' g j
 soft:Qcx bx st'
 no: ∀b,st.box b=none→st'.box b=none
 var:st'.var=st.var
 out:st'.out=st.out
 yl:st'.yl=st.yl
theorem Gone.refl {C:Ctx} {st:St} {a:Act} {w:World} {ρ:Rho} {im:Im} {bx:Bx} (h:Rel' C st a w ρ im) (hs:Qcx bx st):Gone C st st a w ρ im im bx:=
 ⟨h,fun _ _ x=>x,hs,fun _ x=>x,rfl,rfl,rfl⟩
theorem Gone.trans {C:Ctx} {st st' st'':St} {a:Act} {w:World} {ρ:Rho} {im im' im'':Im} {bx:Bx} (h:Gone C st st' a w ρ im im' bx) (k:Gone C st' st'' a w ρ im' im'' bx):
  Gone C st st'' a w ρ im im'' bx:=
 ⟨k.rel,fun g j x=>k.im g j (h.im g j x),k.soft,fun b x=>k.no b (h.no b x),k.var.trans h.var,k.out.trans h.out,k.yl.trans h.yl⟩
theorem Gone.fro {C:Ctx} {st:St} {a:Act} {w:World} {ρ:Rho} {im:Im} {bx:Bx} (h:Rel' C st a w ρ im) (hs:Qcx bx st) {b:Nat} {x:Option Nat} {B:Box} {n:Nat}
  (hρ:ρ b=some x) (hB:st.box b=some B) (hn:n≤B.els.length):Gone C st ((Eff.fro b n).on st) a w ρ im (Qsz im x (n*B.esz)) bx:=by
 have h1:=h.hold hρ hB hn true rfl;rw [←Qyw hB]at h1;exact⟨h1,fun _ _ y=> .inl y,Q2o hs b n,fun b'=>Zmr b n b',by rw [Qyw hB];rfl,by rw [Qyw hB];rfl,by rw [Qyw hB];rfl⟩
section
variable {C:Ctx} {a:Act} {w:World} {ρ:Rho} {bx:Bx}
theorem Qm8 {st:St} {im:Im} {v:PV} {u:Value} (h:Rel' C st a w ρ im) (hs:Qcx bx st) (hv:Rep w im v u):
  ∃im',Gone C st (Qan [] st) a w ρ im im' bx∧Rep w im' v u:=⟨im,Gone.refl h hs,hv⟩
theorem Zcl {st:St} {im:Im} (h:Rel' C st a w ρ im) {b esz off len:Nat} {u:Value} {B:Box} (hv:LR w im ρ (.bs b esz off len) u) (hB:st.box b=some B) (ha:B.arr=true) (he:B.esz=esz)
  (hn:off+len≤B.els.length): ∃x,ρ b=some x∧Rep w (Qsz im x ((off+len)*B.esz)) (.slc ((B.els.drop off).take len)) u:=by
 rcases hv.bs_inv with⟨e,⟨x,rfl⟩,rfl,rfl⟩|⟨g,cap,cur,e,hg,rfl,ho,hc,hl,hm⟩
 ·refine⟨none,e,?_⟩;simp only [List.drop_zero,List.take_zero];cases x with
  |none=>exact .slcNil 0 (Nat.zero_le _)
  |some p=>exact .slc [] p.1 p.2 0 0 0 [] rfl (Nat.zero_le _) (by simp) (by simp) (by simp) .nil (Nat.le_refl _)
 ·refine⟨some g,hg,?_⟩;obtain⟨h1,h2,h3,h4,⟨hmn,cur',us,rest,h5,h6,h7,h8,h9,h10,h11⟩|hm'⟩:=h.box b _ B hg hB
  case inr=>exact(hm'.not_cells ho).elim
  rw [ho]at h5;cases h5;subst he;have hul:us.length=B.els.length*B.esz:=by rw [←h7.length,Qau h4]
  have hmul:off*B.esz+len*B.esz≤B.els.length*B.esz:=by rw [←Nat.add_mul];exact Nat.mul_le_mul_right _ hn
  have hsum:(off+len)*B.esz=off*B.esz+len*B.esz:=Nat.add_mul _ _ _;have hr:=((h8 ha).drop (off*B.esz)).take (len*B.esz);rw [Qe6 off h4,Qen len (fun e he=>h4 e (List.mem_of_mem_drop he))]at hr;refine .slc _ g (off*B.esz) len cap B.esz _ (by simp;omega) (by omega) (fun e he=>h4 e (List.mem_of_mem_drop (List.mem_of_mem_take he))) ?_ ?_ (hr.mono (fun _ _ _=>rfl) fun _ _ y=> .inl y) hl
  ·intro j hj;exact .inr ⟨rfl,by simp at hj;omega⟩
  ·intro j hj;rw [cell_of_row _ _ _ _ _ _ ho,←Array.getElem?_toList,h6,List.getElem?_append_left (by simp at hj;omega)];simp only [List.getElem?_take,List.getElem?_drop];rw [if_pos (by simp at hj;omega)]
theorem Zms {im:Im} {v:PV} {u:Value} (hf:Qct v=true) (h:LR w im ρ v u):Rep w im v u:=by
 unfold Qct at hf;split at hf<;>first
  |(cases h with|ext _ _ h=>exact h)
  |(obtain⟨a,b,rfl,h1,h2⟩:=h.fn_inv
    cases h1.nil_inv;cases h2.nil_inv;exact .fn _ [] [] [] [] .nil .nil)
  |(cases hf;done)
theorem Qs5 {im:Im}: ∀{vs:List PV} {us:List Value},vs.all Qct=true→LRL w im ρ vs us→RepL w im vs us
 | [],_,_,.nil=> .nil
 |v::vs,_,hf,.cons _ u _ us h t=>by
  simp only [List.all_cons,Bool.and_eq_true]at hf;exact .cons _ _ _ _ (Zms hf.1 h) (Qs5 hf.2 t)
theorem Qlt {st:St} {im:Im} (h:Rel' C st a w ρ im) (hs:Qcx bx st) {v y:PV} {u:Value} {es:List Eff} {l:Acc} (hv:LR w im ρ v u) (he:escS v bx=some ((y,es),l)):
  ∃im',Gone C st (Qan es st) a w ρ im im' bx∧Rep w im' y u:=by
 have plain: ∀v:PV,LR w im ρ v u→(match v with| .bp _ _ _ _| .bs _ _ _ _| .fn _ _ _| .undef| .agg _| .tup _| .mp _=>False|_=>True)→Rep w im v u:=by
  intro v hv hh;cases hv<;>first|assumption|exact hh.elim
 unfold escS at he;split at he
 ·rename_i b esz off len;obtain⟨S,l1,l2,e1,e2,_⟩:=M.bind_some he;obtain⟨B0,hb0,rfl,_⟩:=M.soft_some e1;obtain⟨_,l3,l4,e3,e4,_⟩:=M.bind_some e2;obtain⟨hc,_⟩:=M.ok_some e3;obtain⟨e5,_⟩:=M.pure_some e4;cases e5;obtain⟨B,hB,hsoft⟩:=hs.get hb0;obtain⟨s1,s2,s3,s4⟩:=Qqv hsoft;simp only [Box.soft,Bool.and_eq_true,beq_iff_eq,decide_eq_true_eq]at hc;obtain⟨x,hx,hrep⟩:=Zcl h hv hB (by rw [s4];exact hc.1.1) (by rw [s2];exact hc.1.2) (by rw [s1];exact of_decide_eq_true hc.2);refine⟨_,Gone.fro h hs hx hB (by rw [s1];exact of_decide_eq_true hc.2),?_⟩;simpa [Box.soft,s1]using hrep
 ·obtain⟨e5,_⟩:=M.pure_some he;cases e5;have:=hv.nilS_inv;subst this;exact Qm8 h hs (.slcNil 0 (Nat.zero_le _))
 ·obtain⟨_,_,_,e3,e4,_⟩:=M.bind_some he;obtain⟨hc,_⟩:=M.ok_some e3;obtain⟨e5,_⟩:=M.pure_some e4;cases e5;obtain⟨p,q,rfl,hp,hq⟩:=hv.fn_inv;have e1:=hp.nil_inv;subst e1;exact Qm8 h hs (.fn _ [] _ [] q .nil (Qs5 hc hq))
 ·cases he
 ·cases he
 ·cases he
 ·cases he
 ·cases he
 ·cases he
 ·rename_i n1 n2 n3 n4 n5 n6 n7 n8 n9;obtain⟨e5,_⟩:=M.pure_some he;cases e5;refine Qm8 h hs (plain _ hv ?_);cases v with
  |mp b=>exact n9 _ rfl
  |bp b e i o=>exact n5 _ _ _ _ rfl
  |bs b e i o=>exact n1 _ _ _ _ rfl
  |fn f x y=>exact n4 _ _ _ rfl
  |undef=>exact n6 rfl
  |tup x=>exact n7 _ rfl
  |agg x=>exact n8 _ rfl
  |_=>trivial
theorem Zcm: ∀{st:St} {im:Im} (_:Rel' C st a w ρ im) (_:Qcx bx st) {vs ys:List PV} {us:List Value} {es:List Eff} {l:Acc} (_:LRL w im ρ vs us) (_:Zcc vs bx=some ((ys,es),l)),
  ∃im',Gone C st (Qan es st) a w ρ im im' bx∧RepL w im' ys us:=by
 intro st im h hs vs
 induction vs generalizing st im with
 |nil=>
  intro ys us es l hv he;obtain⟨e,_⟩:=M.pure_some he;cases e;cases hv.nil_inv;exact⟨im,Gone.refl h hs,.nil⟩
 |cons v vs ih=>
  intro ys us es l hv he;obtain⟨u,us',rfl,h1,h2⟩:=hv.cons_inv;obtain⟨⟨y,e1⟩,l1,l2,k1,k2,_⟩:=M.bind_some he;obtain⟨⟨ys',e2⟩,l3,l4,k3,k4,_⟩:=M.bind_some k2;obtain⟨k5,_⟩:=M.pure_some k4;cases k5;obtain⟨im1,g1,r1⟩:=Qlt h hs h1 k1;obtain⟨im2,g2,r2⟩:=ih g1.rel g1.soft (h2.mono (Keeps.refl _ _) g1.im fun _ _ x=>x) k3;refine⟨im2,by rw [Qav];exact g1.trans g2,.cons _ _ _ _ (r1.mono (fun _ _ _=>rfl) g2.im) r2⟩
theorem Q2p {v y:PV} {es:List Eff} {l:Acc} (he:escS v bx=some ((y,es),l)):y.cells=[y]:=by
 unfold escS at he;split at he
 ·obtain⟨S,l1,l2,e1,e2,_⟩:=M.bind_some he;obtain⟨_,l3,l4,e3,e4,_⟩:=M.bind_some e2;obtain⟨e5,_⟩:=M.pure_some e4;cases e5;rfl
 ·obtain⟨e5,_⟩:=M.pure_some he;cases e5;rfl
 ·obtain⟨_,_,_,e3,e4,_⟩:=M.bind_some he;obtain⟨e5,_⟩:=M.pure_some e4;cases e5;rfl
 ·cases he
 ·cases he
 ·cases he
 ·cases he
 ·cases he
 ·cases he
 ·rename_i n1 n2 n3 n4 n5 n6 n7 n8 n9;obtain⟨e5,_⟩:=M.pure_some he;cases e5;cases v with
  |agg x=>exact absurd rfl (n8 _)
  |_=>rfl
theorem Zmt {st:St} {im:Im} (h:Rel' C st a w ρ im) (hs:Qcx bx st) {v y:PV} {us:List Value} {es:List Eff} {l:Acc} (hv:LRL w im ρ v.cells us) (he:escE v bx=some ((y,es),l)):
  ∃im',Gone C st (Qan es st) a w ρ im im' bx∧RepL w im' y.cells us:=by
 unfold escE at he;split at he
 ·rename_i cs;obtain⟨⟨ys,es'⟩,l1,l2,k1,k2,_⟩:=M.bind_some he;obtain⟨k3,_⟩:=M.pure_some k2;cases k3;obtain⟨im1,g1,r1⟩:=Zcm h hs hv k1;exact⟨im1,g1,r1⟩
 ·rename_i hn;have hc:v.cells=[v]:=by
   cases v with
   |agg x=>exact absurd rfl (hn _)
   |_=>rfl
  rw [hc]at hv;obtain⟨u,us',rfl,h1,h2⟩:=hv.cons_inv;cases h2.nil_inv;obtain⟨im1,g1,r1⟩:=Qlt h hs h1 he;rw [Q2p he];exact⟨im1,g1,.cons _ _ _ _ r1 .nil⟩
theorem LRL.split {w:World} {im:Im} {ρ:Rho}: ∀{asx bs:List PV} {us:List Value},LRL w im ρ (asx++bs) us→ ∃u1 u2,us=u1++u2∧LRL w im ρ asx u1∧LRL w im ρ bs u2
 | [],_,us,h=>⟨[],us,rfl,.nil,h⟩
 |_::asx,_,_,h=>by
  obtain⟨u,us',rfl,h1,h2⟩:=h.cons_inv;obtain⟨u1,u2,rfl,h3,h4⟩:=LRL.split (asx:=asx) h2;exact⟨u::u1,u2,rfl,.cons _ _ _ _ h1 h3,h4⟩
theorem Zcn: ∀{st:St} {im:Im} (_:Rel' C st a w ρ im) (_:Qcx bx st) {vs ys:List PV} {us:List Value} {es:List Eff} {l:Acc} (_:LRL w im ρ (vs.flatMap PV.cells) us) (_:Q2g vs bx=some ((ys,es),l)),
  ∃im',Gone C st (Qan es st) a w ρ im im' bx∧RepL w im' (ys.flatMap PV.cells) us∧ys.map (fun y=>y.cells.length)=vs.map (fun y=>y.cells.length):=by
 intro st im h hs vs
 induction vs generalizing st im with
 |nil=>
  intro ys us es l hv he;obtain⟨e,_⟩:=M.pure_some he;cases e;cases hv.nil_inv;exact⟨im,Gone.refl h hs,.nil,rfl⟩
 |cons v vs ih=>
  intro ys us es l hv he;rw [List.flatMap_cons]at hv;obtain⟨u1,u2,rfl,h1,h2⟩:=hv.split;obtain⟨⟨y,e1⟩,l1,l2,k1,k2,_⟩:=M.bind_some he;obtain⟨⟨ys',e2⟩,l3,l4,k3,k4,_⟩:=M.bind_some k2;obtain⟨k5,_⟩:=M.pure_some k4;cases k5;obtain⟨im1,g1,r1⟩:=Zmt h hs h1 k1;obtain⟨im2,g2,r2,r3⟩:=ih g1.rel g1.soft (h2.mono (Keeps.refl _ _) g1.im fun _ _ x=>x) k3;refine⟨im2,by rw [Qav];exact g1.trans g2,?_,?_⟩
  ·rw [List.flatMap_cons];exact(r1.mono (fun _ _ _=>rfl) g2.im).append r2
  ·rw [List.map_cons,List.map_cons,r3,r1.length,h1.length]
theorem Qhh {st:St} {im:Im} (h:Rel' C st a w ρ im) (hs:Qcx bx st) {v y:PV} {u:Value} {es:List Eff} {l:Acc} (hv:LR w im ρ v u) (he:esc0 v bx=some ((y,es),l)):
  ∃im',Gone C st (Qan es st) a w ρ im im' bx∧Rep w im' y u:=by
 unfold esc0 at he;split at he
 ·rename_i b esz off len;obtain⟨S,l1,l2,e1,e2,_⟩:=M.bind_some he;obtain⟨B0,hb0,rfl,_⟩:=M.soft_some e1;split at e2
  ·exact Qlt h hs hv e2
  ·obtain⟨_,l3,l4,e3,e4,_⟩:=M.bind_some e2;obtain⟨hc,_⟩:=M.ok_some e3;obtain⟨⟨ys,es'⟩,l5,l6,e5,e6,_⟩:=M.bind_some e4;obtain⟨e7,_⟩:=M.pure_some e6;cases e7;obtain⟨B,hB,hsoft⟩:=hs.get hb0;obtain⟨s1,s2,s3,s4⟩:=Qqv hsoft;rw [Bool.and_eq_true]at hc;have hc:B.esz=esz∧off+len≤B.els.length:=⟨by rw [s2];exact beq_iff_eq.1 hc.1,by rw [s1];exact of_decide_eq_true hc.2⟩;have e5:Q2g ((B.els.drop off).take len) bx=some ((ys,es'),l5):=by rw [s1];exact e5
   rcases hv.bs_inv with⟨e,⟨x,rfl⟩,rfl,rfl⟩|⟨g,cap,cur,e,hg,rfl,ho,hcp,hl,hm⟩
   ·simp only [List.drop_zero,List.take_zero]at e5;obtain⟨k5,_⟩:=M.pure_some e5;cases k5;refine⟨_,Gone.fro h hs e hB (n:=0+0) (Nat.zero_le _),?_⟩;cases x with
    |none=>exact .slcNil 0 (Nat.zero_le _)
    |some p=>exact .slcE _ 0 (Nat.zero_le _)
   ·obtain⟨h1,h2,h3,h4,⟨hmn,cur',us,rest,h5,h6,h7,h8,h9,h10,h11⟩|hm'⟩:=h.box b _ B hg hB
    case inr=>exact(hm'.not_cells ho).elim
    rw [ho]at h5;cases h5;obtain⟨hc1,hc2⟩:=hc;subst hc1;have hul:us.length=B.els.length*B.esz:=by rw [←h7.length,Qau h4]
    have hmul:off*B.esz+len*B.esz≤B.els.length*B.esz:=by rw [←Nat.add_mul];exact Nat.mul_le_mul_right _ hc2
    have hsum:(off+len)*B.esz=off*B.esz+len*B.esz:=Nat.add_mul _ _ _;have hr:=(h7.drop (off*B.esz)).take (len*B.esz);rw [Qe6 off h4,Qen len (fun e he=>h4 e (List.mem_of_mem_drop he))]at hr;obtain⟨im1,g1,r1,r2⟩:=Zcn h hs hr e5;obtain⟨B1,hB1,hsoft1⟩:=g1.soft.get hb0;obtain⟨t1,t2,t3,t4⟩:=Qqv hsoft1;have q1:B1.els=B.els:=by rw [s1];exact t1
    have q2:B1.esz=B.esz:=by rw [s2];exact t2
    have g2:=Gone.fro g1.rel g1.soft hg hB1 (n:=off+len) (by rw [q1];exact hc2);have hyl:ys.length=len:=by
     have:=congrArg List.length r2;simp only [List.length_map,List.length_take,List.length_drop]at this;omega
    refine⟨_,by rw [Qav];exact g1.trans (by simpa [Qan]using g2),?_⟩;have hyz: ∀e∈ys,e.cells.length=B.esz:=by
     intro e he;have:e.cells.length∈ys.map (fun y=>y.cells.length):=List.mem_map.2 ⟨e,he,rfl⟩;rw [r2]at this;obtain⟨d,hd,e2⟩:=List.mem_map.1 this;rw [←e2];exact h4 d (List.mem_of_mem_drop (List.mem_of_mem_take hd))
    refine .slc _ g (off*B.esz) len cap B.esz _ hyl (by omega) hyz ?_ ?_ (r1.mono (fun _ _ _=>rfl) fun _ _ y=> .inl y) hl
    ·intro j hj;exact .inr ⟨rfl,by simp at hj;rw [q2];omega⟩
    ·intro j hj;rw [cell_of_row _ _ _ _ _ _ ho,←Array.getElem?_toList,h6,List.getElem?_append_left (by simp at hj;omega)];simp only [List.getElem?_take,List.getElem?_drop];rw [if_pos (by simp at hj;omega)]
 ·exact Qlt h hs hv he
theorem Qqw: ∀{st:St} {im:Im} (_:Rel' C st a w ρ im) (_:Qcx bx st) {vs ys:List PV} {us:List Value} {es:List Eff} {l:Acc} (_:LRL w im ρ vs us) (_:escL vs bx=some ((ys,es),l)),
  ∃im',Gone C st (Qan es st) a w ρ im im' bx∧RepL w im' ys us:=by
 intro st im h hs vs
 induction vs generalizing st im with
 |nil=>
  intro ys us es l hv he;obtain⟨e,_⟩:=M.pure_some he;cases e;cases hv.nil_inv;exact⟨im,Gone.refl h hs,.nil⟩
 |cons v vs ih=>
  intro ys us es l hv he;obtain⟨u,us',rfl,h1,h2⟩:=hv.cons_inv;obtain⟨⟨y,e1⟩,l1,l2,k1,k2,_⟩:=M.bind_some he;obtain⟨⟨ys',e2⟩,l3,l4,k3,k4,_⟩:=M.bind_some k2;obtain⟨k5,_⟩:=M.pure_some k4;cases k5;obtain⟨im1,g1,r1⟩:=Qhh h hs h1 k1;obtain⟨im2,g2,r2⟩:=ih g1.rel g1.soft (h2.mono (Keeps.refl _ _) g1.im fun _ _ x=>x) k3;refine⟨im2,by rw [Qav];exact g1.trans g2,.cons _ _ _ _ (r1.mono (fun _ _ _=>rfl) g2.im) r2⟩
theorem Qjd {st:St} {im:Im} (h:Rel' C st a w ρ im) (hs:Qcx bx st) {v y:PV} {u:Value} {es:List Eff} {l:Acc} (hv:LR w im ρ v u) (he:escC v bx=some ((y,es),l)):
  ∃im',Gone C st (Qan es st) a w ρ im im' bx∧Rep w im' y u:=by
 unfold escC at he;split at he
 ·rename_i b esz i off;obtain⟨S,l1,l2,e1,e2,_⟩:=M.bind_some he;obtain⟨B0,hb0,rfl,_⟩:=M.soft_some e1;obtain⟨_,l3,l4,e3,e4,_⟩:=M.bind_some e2;obtain⟨hc,_⟩:=M.ok_some e3;obtain⟨e,l5,l6,e5,e6,_⟩:=M.bind_some e4;obtain⟨hel,_⟩:=M.ofOpt_some e5;obtain⟨⟨ys,es'⟩,l7,l8,e7,e8,_⟩:=M.bind_some e6;obtain⟨e9,_⟩:=M.pure_some e8;cases e9;obtain⟨B,hB,hsoft⟩:=hs.get hb0;obtain⟨s1,s2,s3,s4⟩:=Qqv hsoft;simp only [Box.soft,beq_iff_eq]at hc hel;rw [←s1]at hel;obtain⟨g,hg,rfl⟩:=hv.bp_inv;have hlt:i<B.els.length:=(List.getElem?_eq_some_iff.1 hel).1;obtain⟨hez,us,hr,_,hcell⟩:=h.seen hg hB hel;have g1:=Gone.fro h hs hg hB (n:=i+1) hlt;obtain⟨im2,g2,r2⟩:=Qqw g1.rel g1.soft ((hr.drop off).mono (Keeps.refl _ _) g1.im fun _ _ x=>x) e7;refine⟨im2,by rw [Qay];exact g1.trans g2,.rp _ _ _ (us.drop off) ?_ ?_ r2⟩
  ·intro j hj;have hul:=hr.length;refine g2.im _ _ (.inr ⟨rfl,?_⟩);rw [←hc,←s2,Nat.succ_mul];simp at hj;omega
  ·intro j hj;have hul:=hr.length;simp at hj;have:=hcell (off+j) (by omega);rw [←hc,←s2,Nat.add_assoc,this,List.getElem?_drop]
 ·exact Qhh h hs hv he
theorem Qfa: ∀{st:St} {im:Im} (_:Rel' C st a w ρ im) (_:Qcx bx st) {vs ys:List PV} {us:List Value} {es:List Eff} {l:Acc} (_:LRL w im ρ vs us) (_:Qev vs bx=some ((ys,es),l)),
  ∃im',Gone C st (Qan es st) a w ρ im im' bx∧RepL w im' ys us:=by
 intro st im h hs vs
 induction vs generalizing st im with
 |nil=>
  intro ys us es l hv he;obtain⟨e,_⟩:=M.pure_some he;cases e;cases hv.nil_inv;exact⟨im,Gone.refl h hs,.nil⟩
 |cons v vs ih=>
  intro ys us es l hv he;obtain⟨u,us',rfl,h1,h2⟩:=hv.cons_inv;obtain⟨⟨y,e1⟩,l1,l2,k1,k2,_⟩:=M.bind_some he;obtain⟨⟨ys',e2⟩,l3,l4,k3,k4,_⟩:=M.bind_some k2;obtain⟨k5,_⟩:=M.pure_some k4;cases k5;obtain⟨im1,g1,r1⟩:=Qjd h hs h1 k1;obtain⟨im2,g2,r2⟩:=ih g1.rel g1.soft (h2.mono (Keeps.refl _ _) g1.im fun _ _ x=>x) k3;refine⟨im2,by rw [Qav];exact g1.trans g2,.cons _ _ _ _ (r1.mono (fun _ _ _=>rfl) g2.im) r2⟩
theorem Qqx {st:St} {im:Im} (h:Rel' C st a w ρ im) (hs:Qcx bx st) {v y:PV} {u:Value} {es:List Eff} {l:Acc} (hv:LR w im ρ v u) (he:esc1 v bx=some ((y,es),l)):
  ∃im',Gone C st (Qan es st) a w ρ im im' bx∧Rep w im' y u:=by
 unfold esc1 at he;split at he
 ·obtain⟨⟨ys,es'⟩,l1,l2,k1,k2,_⟩:=M.bind_some he;obtain⟨k3,_⟩:=M.pure_some k2;cases k3;obtain⟨us,rfl,hr⟩:=hv.agg_inv;obtain⟨im1,g1,r1⟩:=Qqw h hs hr k1;exact⟨im1,g1,.agg _ _ r1⟩
 ·obtain⟨⟨ys,e1⟩,l1,l2,k1,k2,_⟩:=M.bind_some he;obtain⟨⟨ys',e2⟩,l3,l4,k3,k4,_⟩:=M.bind_some k2;obtain⟨k5,_⟩:=M.pure_some k4;cases k5;obtain⟨p,q,rfl,hp,hq⟩:=hv.fn_inv;obtain⟨im1,g1,r1⟩:=Qfa h hs hp k1;obtain⟨im2,g2,r2⟩:=Qfa g1.rel g1.soft (hq.mono (Keeps.refl _ _) g1.im fun _ _ x=>x) k3;exact⟨im2,by rw [Qav];exact g1.trans g2,.fn _ _ _ _ _ (r1.mono (fun _ _ _=>rfl) g2.im) r2⟩
 ·exact Qjd h hs hv he
theorem Qje: ∀{st:St} {im:Im} (_:Rel' C st a w ρ im) (_:Qcx bx st) {vs ys:List PV} {us:List Value} {es:List Eff} {l:Acc} (_:LRL w im ρ vs us) (_:Qgh vs bx=some ((ys,es),l)),
  ∃im',Gone C st (Qan es st) a w ρ im im' bx∧RepL w im' ys us:=by
 intro st im h hs vs
 induction vs generalizing st im with
 |nil=>
  intro ys us es l hv he;obtain⟨e,_⟩:=M.pure_some he;cases e;cases hv.nil_inv;exact⟨im,Gone.refl h hs,.nil⟩
 |cons v vs ih=>
  intro ys us es l hv he;obtain⟨u,us',rfl,h1,h2⟩:=hv.cons_inv;obtain⟨⟨y,e1⟩,l1,l2,k1,k2,_⟩:=M.bind_some he;obtain⟨⟨ys',e2⟩,l3,l4,k3,k4,_⟩:=M.bind_some k2;obtain⟨k5,_⟩:=M.pure_some k4;cases k5;obtain⟨im1,g1,r1⟩:=Qqx h hs h1 k1;obtain⟨im2,g2,r2⟩:=ih g1.rel g1.soft (h2.mono (Keeps.refl _ _) g1.im fun _ _ x=>x) k3;refine⟨im2,by rw [Qav];exact g1.trans g2,.cons _ _ _ _ (r1.mono (fun _ _ _=>rfl) g2.im) r2⟩
end
def Does (C:Ctx) (st':St) (a:Act) (w:World) (s:Sem Next) (v:PV):Prop:=
 ∃u w' ρ' im',(s.run C.P w= .ok (.value u) w'∨(s.run C.P w= .ok .skip w'∧u=undef))∧Rel' C st' a w' ρ' im'∧LR w' im' ρ' v u
section
variable {C:Ctx} {st:St} {a:Act} {w:World} {ρ:Rho} {im:Im} {o:Oper}
theorem Qbf {v:PV} (h:Rel' C st a w ρ im) (hc:Calm C.P w im ρ a o v):Does C (Qan [] st) a w (execOp a.eval o) v:=by
 obtain⟨u,h1,h2⟩:=hc;exact⟨u,w,ρ,im,.inl h1,h,h2⟩
theorem LR.cells {v:PV} {u:Value} (h:LR w im ρ v u) (ho:Qa4 v.cells=true):LRL w im ρ v.cells u.cells.toList:=by
 have one:v.cells=[v]→LRL w im ρ v.cells u.cells.toList:=by
  intro hv;rw [hv]at ho ⊢;have hu:=h.oneCell (by simpa [Qa4]using ho);have:u.cells= #[u]:=by cases u<;>first|rfl|simp [Value.oneCell']at hu
  rw [this];exact .cons _ _ _ _ h .nil
 cases v with
 |agg cs=>obtain⟨vs,rfl,hr⟩:=h.agg_inv;simpa [PV.cells,Value.cells]using hr
 |_=>exact one rfl
theorem Rep.cells {v:PV} {u:Value} (h:Rep w im v u) (ho:Qa4 v.cells=true):RepL w im v.cells u.cells.toList:=by
 have one:v.cells=[v]→RepL w im v.cells u.cells.toList:=by
  intro hv;rw [hv]at ho ⊢;have hu:=(LR.ext (ρ:=fun _=>none) _ _ h).oneCell (by simpa [Qa4]using ho);have:u.cells= #[u]:=by cases u<;>first|rfl|simp [Value.oneCell']at hu
  rw [this];exact .cons _ _ _ _ h .nil
 cases v with
 |agg cs=>cases h with|agg _ vs hr=>simpa [PV.cells,Value.cells]using hr
 |_=>exact one rfl
theorem Qm9 {id:Nat} (hidL:id<LENT) {T:TypeId} {v r:PV} {u:Value} {es:List Eff} {l:Acc} {s:Sem Next} (h:Rel' C st a w ρ im) (hv:LR w im ρ v u) (he:newVar id T v st.box=some (.done r es,l))
  (hs:s.run C.P w= .ok (.value (.pointer (some ⟨w.heap.size,0,none⟩))) (w.alloc (.cells u.cells T))):Does C (Qan es st) a w s r:=by
 unfold newVar at he;obtain⟨n,l1,l2,e1,e2,_⟩:=M.bind_some he;obtain⟨rfl,_⟩:=M.hard_some e1;obtain⟨_,l3,l4,e3,e4,_⟩:=M.bind_some e2;obtain⟨hc,_⟩:=M.ok_some e3;obtain⟨e5,_⟩:=M.pure_some e4;cases e5;simp only [Bool.and_eq_true,decide_eq_true_eq,Option.isNone_iff_eq_none]at hc;have hcells:=hv.cells hc.1.2;obtain⟨h1,h2,h3⟩:=h.newBox hidL hc.1.1 {els:=[v],esz:=v.cells.length,ety:=T,fro:=0,live:=true,arr:=false} u.cells.toList [] rfl hc.2 (by simp) rfl (by simpa using hcells) (by simp)
  (hcells.oneCells hc.1.2)
 refine⟨_,_,_,_,.inl hs,by simpa [Qan,Eff.on]using h1,?_⟩;exact .bp id _ 0 0 w.heap.size 0 (Qao _ _ _) (by simp)
theorem Zmu {id:Nat} (hidL:id<LENT) {T:TypeId} {x:Operand} {v r:PV} {es:List Eff} {l:Acc} (ho:o.op= .box T x) (h:Rel' C st a w ρ im) (hv:LR w im ρ v (a.eval x)) (he:newVar id T v st.box=some (.done r es,l)):
  Does C (Qan es st) a w (execOp a.eval o) r:=
 Qm9 hidL h hv he (by simp [execOp,ho,Instr.box,newVar,newRow,Go.newVar])
theorem Qcr {P:Program} {T:TypeId} {z:PV} (h:Qar P T=some z): ∃i zv,P.info? T=some i∧i.zero=some zv∧Qfm zv=some z:=by
 unfold Qar at h;split at h
 ·rename_i i hi;split at h
  ·rename_i zv hz;exact⟨i,zv,hi,hz,h⟩
  ·cases h
 ·cases h
theorem Qe3 {P:Program} {T:TypeId} {i:TypeInfo} {z:Value} (hi:P.info? T=some i) (hz:i.zero=some z):(zeroValue T).run P w= .ok z w:=by simp [zeroValue,typeInfo,hi,hz]
theorem Q2q {id:Nat} (hidL:id<LENT) {T:TypeId} {z r:PV} {es:List Eff} {l:Acc} (ho:o.op= .alloc T) (h:Rel' C st a w ρ im) (hz:Qar C.P T=some z) (he:newVar id T z st.box=some (.done r es,l)):
  Does C (Qan es st) a w (execOp a.eval o) r:=by
 obtain⟨i,zv,h1,h2,h3⟩:=Qcr hz;exact Qm9 hidL h (.ext _ _ (Qco h3)) he (by simp [execOp,ho,Instr.alloc,Qe3 h1 h2,newRow,Go.newVar])
theorem Qyx {place:Nat→Option (Nat×Nat)}: ∀{ps:List (Nat×PV)} {us:List (Nat×Value)} {cs ds:List PV} {cells:Array Value},LRL w im ρ cs cells.toList→ps.map (·.1)=us.map (·.1)→
  LRL w im ρ (ps.map (·.2)) (us.map (·.2))→Qkn place cs ps=some ds→ ∃r,Instr.fill place cells us=some r∧LRL w im ρ ds r.toList
 | [],us,cs,ds,cells,hr,hm,_,he=>by
  have:us=[]:=by simpa using hm.symm
  subst this;simp [Qkn]at he;subst he;exact⟨cells,rfl,hr⟩
 |(i,v)::ps,us,cs,ds,cells,hr,hm,hv,he=>by
  cases us with
  |nil=>simp at hm
  |cons p us=>
   obtain⟨i',u⟩:=p;simp only [List.map_cons,List.cons.injEq]at hm;obtain⟨rfl,hm⟩:=hm;obtain⟨u0,us0,hcons,hv1,hv2⟩:=hv.cons_inv;simp only [List.map_cons,List.cons.injEq]at hcons;obtain⟨rfl,rfl⟩:=hcons;unfold Qkn at he;split at he
   ·cases he
   ·rename_i off size hp;split at he
    ·rename_i hc;obtain⟨hc1,hc2,hc3⟩:=hc;have hcells:=hv1.cells hc3;have hul:u.cells.size=size:=by rw [←hc1,hcells.length];simp
     have hcl:cells.size=cs.length:=by rw [hr.length];simp
     obtain⟨g1,g2⟩:=Great.foldl_set off u.cells.toList 0 cells;have hfold:(u.cells.zipIdx.foldl (fun cs (x:Value×Nat)=>cs.setIfInBounds (off+x.2) x.1) cells)=(cells.toList.take off++u.cells.toList++cells.toList.drop (off+size)).toArray:=by
      rw [←Array.foldl_toList,Array.toList_zipIdx];apply Array.ext_getElem?;intro k;rw [g2 k];simp only [Nat.add_zero,Array.length_toList,hul,List.getElem?_toArray];by_cases x:off≤k∧k<off+size∧k<cells.size
      ·rw [if_pos x,List.getElem?_append_left (by simp;omega),List.getElem?_append_right (by simp;omega)];congr 1;simp;omega
      ·rw [if_neg x];have:=Qe7 cells.toList u.cells.toList off k (by simp;omega) (by simp;omega);simp only [Array.length_toList,hul]at this;rw [this,Array.getElem?_toList]
     have hr':LRL w im ρ (cs.take off++v.cells++cs.drop (off+size)) (cells.toList.take off++u.cells.toList++cells.toList.drop (off+size)).toArray.toList:=by
      simpa using ((hr.take off).append hcells).append (hr.drop (off+size))
     obtain⟨r,h1,h2⟩:=Qyx hr' hm hv2 he;refine⟨r,?_,h2⟩;unfold Instr.fill;simp only [hp];rw [if_neg (by simp;omega),hfold];exact h1
    ·cases he
theorem Qna {P:Program}: ∀(fs:List Field),(∀f∈fs,(P.info? f.type).isSome=true)→ ∃places,fs.mapM (fun f:Field=>(P.info? f.type).map fun i=>(f.offset,i.size))=some places∧
  ∀i:Nat,places[i]? =match fs[i]? with|some f=>(match P.info? f.type with|some j=>some (f.offset,j.size)|none=>none)|none=>none
 | [],_=>⟨[],rfl,fun i=>by simp⟩
 |f::fs,h=>by
  obtain⟨ps,h1,h2⟩:=Qna fs (fun x hx=>h x (by simp [hx]));obtain⟨j,hj⟩:=Option.isSome_iff_exists.1 (h f (by simp));refine⟨(f.offset,j.size)::ps,by simp [List.mapM_cons,hj,h1],fun i=> ?_⟩;cases i with
  |zero=>simp [hj]
  |succ i=>simpa using h2 i
theorem Qo7 {p q:Nat→Option (Nat×Nat)} (h: ∀i,p i=q i): ∀(us:List (Nat×Value)) (cells:Array Value),Instr.fill p cells us=Instr.fill q cells us:=by
 have:p=q:=funext h;subst this;exact fun _ _=>rfl
theorem Qs6 {P:Program} {T:TypeId} {z:PV} {zv:Value} (h3:Qfm zv=some z):LRL w im ρ z.cells zv.cells.toList:=by
 have hr:=Qco (w:=w) (im:=im) h3;have hcc: ∀zv z,Qfm zv=some z→z.cells=[]∨Qa4 z.cells=true∨z= .tup []:=by
  intro zv z hh;unfold Qfm at hh;split at hh
  ·rename_i cs0;cases e:Qci cs0.toList with
   |none=>rw [e]at hh;cases hh
   |some xs=>
    rw [e]at hh;cases hh;right;left;have: ∀(vs:List Value) (xs:List PV),Qci vs=some xs→Qa4 xs=true:=by
     intro vs
     induction vs with
     |nil=>intro xs hx;simp [Qci]at hx;subst hx;rfl
     |cons v vs ih=>
      intro xs hx;unfold Qci at hx;split at hx
      ·rename_i x ys e1 e2;cases hx;have hxo:x.okCell=true:=by
        unfold Qep at e1;split at e1<;>first|(cases e1;rfl)|(split at e1<;>cases e1;rfl)|cases e1
       simp only [Qa4,List.all_cons,hxo,Bool.true_and];exact ih _ e2
      ·cases hx
    exact this _ _ e
  ·split at hh
   ·cases hh;right;right;rfl
   ·cases hh
  ·right;left;unfold Qep at hh;split at hh<;>first|(cases hh;rfl)|(split at hh<;>cases hh;rfl)|cases hh
 rcases hcc zv z h3 with e|e|e
 ·cases z<;>simp [PV.cells]at e;subst e;cases hr with|agg _ vs hr=>cases hr;simp [PV.cells,Value.cells];exact .nil
 ·exact(LR.ext _ _ hr).cells e
 ·subst e;cases hr with|tup _ vs hr=>cases hr;simp [PV.cells,Value.cells];exact .cons _ _ _ _ (.ext _ _ (.tup [] [] .nil)) .nil
theorem Qo8: ∀us:List Value,LRL w im ρ (List.replicate us.length .undef) us
 | []=> .nil
 |u::us=> .cons _ _ _ _ (.undef u) (Qo8 us)
theorem Q2r {P:Program} {T:TypeId} {z:PV} (h:Qo2 P T=some z): ∃i zv,P.info? T=some i∧i.zero=some zv∧LRL w im ρ z.cells zv.cells.toList:=by
 unfold Qo2 at h;split at h
 ·rename_i z' hz;cases h;obtain⟨i,zv,h1,h2,h3⟩:=Qcr hz;exact⟨i,zv,h1,h2,Qs6 (P:=P) (T:=T) h3⟩
 ·unfold Zo4 at h;split at h
  ·rename_i i hi;split at h
   ·rename_i cs hz;cases h;refine⟨i,_,hi,hz,?_⟩;have:=Qo8 (w:=w) (im:=im) (ρ:=ρ) cs.toList;simpa [PV.cells,Value.cells]using this
   ·cases h
  ·cases h
theorem Q2s {T:TypeId} {parts:Array (Nat×Operand)} {vs cs:List PV} {z:PV} (ho:o.op= .build T parts) (h:Rel' C st a w ρ im)
  (hv:LRL w im ρ vs (o.op.operands.toList.map a.eval)) (hb:buildable C.P T=true) (hz:Qo2 C.P T=some z)
  (hf:Qkn (Qae C.P T) z.cells ((parts.toList.map (·.1)).zip vs)=some cs):Does C (Qan [] st) a w (execOp a.eval o) (.agg cs):=by
 obtain⟨i,zv,h1,h2,hzr⟩:=Q2r (w:=w) (im:=im) (ρ:=ρ) hz;rw [ho]at hv;simp only [Op.operands,List.map_map]at hv;have hvl:=hv.length;simp at hvl;have hzip1:((parts.toList.map (·.1)).zip vs).map (·.1)=(parts.toList.map fun p=>(p.1,a.eval p.2)).map (·.1):=by
  rw [List.map_fst_zip (by simp;omega)];simp
 have hzip2:LRL w im ρ (((parts.toList.map (·.1)).zip vs).map (·.2)) ((parts.toList.map fun p=>(p.1,a.eval p.2)).map (·.2)):=by
  rw [List.map_snd_zip (by simp;omega)];simpa [Function.comp_def]using hv
 obtain⟨r,hr1,hr2⟩:=Qyx (place:=Qae C.P T) hzr hzip1 hzip2 hf;have hbuilt:C.P.built T (parts.map fun(i,x)=>(i,a.eval x)).toList=some r:=by
  unfold buildable at hb;unfold Program.built;split at hb
  ·rename_i fs hfs;obtain⟨places,hp1,hp2⟩:=Qna (P:=C.P) fs.toList (by
    intro f hf';simp only [Array.all_eq_true']at hb;exact hb f (by simpa using hf'))
   simp only [h1,hfs,h2,hp1];rw [Qo7 (q:=Qae C.P T) (fun i=> ?_)]
   ·simpa using hr1
   ·simp only [List.getElem?_toArray,hp2 i,Qae,hfs,Array.getElem?_toList];cases fs[i]? with
    |none=>rfl
    |some f=>cases C.P.info? f.type<;>rfl
  ·rename_i n e hfs;obtain⟨j,hj⟩:=Option.isSome_iff_exists.1 hb;simp only [h1,hfs,h2,hj];rw [Qo7 (q:=Qae C.P T) (fun i=> ?_)]
   ·simpa using hr1
   ·simp only [Qae,hfs,hj]
  ·cases hb
 refine⟨.agg r,w,ρ,im,.inl ?_,h,?_⟩
 ·have:=run_build (P:=C.P) w T (parts.map fun(i,x)=>(i,a.eval x)) r hbuilt;simp [execOp,ho,this]
 ·have:r=r.toList.toArray:=by simp
  rw [this];exact .agg _ _ hr2
theorem Qs7 {T:TypeId} {x:Operand} {b esz i off:Nat} {B:Box} {e v:PV} (ho:o.op= .load T x) (h:Rel' C st a w ρ im) (hx:LR w im ρ (.bp b esz i off) (a.eval x))
  (hB:st.box b=some B) (hz:B.esz=esz) (he:B.els[i]? =some e) (hv:Qdf C.P T e.cells off=some v):Does C (Qan [] st) a w (execOp a.eval o) v:=by
 obtain⟨g,hg,ex⟩:=hx.bp_inv;obtain⟨hez,us,hr,_,hc⟩:=h.seen hg hB he;have hul:=hr.length;obtain⟨u,h1,h2⟩:=Qls (P:=C.P) (g:=g) (p:=i*B.esz) hr (fun j hj=>hc j (by omega)) hv;refine⟨u,w,ρ,im,.inl ?_,h,h2⟩;rw [hz]at h1;simp [execOp,ho,ex,Instr.loadAt,Instr.sureAddr,h1]
theorem Qs8 {T:TypeId} {x:Operand} {cs:List PV} {v:PV} (ho:o.op= .load T x) (h:Rel' C st a w ρ im) (hx:LR w im ρ (.rp cs) (a.eval x))
  (hv:Qdf C.P T cs 0=some v):Does C (Qan [] st) a w (execOp a.eval o) v:=by
 have hr:=hx.rp_inv;generalize hu:a.eval x=u0 at*;cases hr with
 |rp _ g off vs hi hc hr=>
  obtain⟨u,h1,h2⟩:=Qls (P:=C.P) (w:=w) (g:=g) (p:=off) (off:=0) (ρ:=ρ) hr.toLRL (fun j hj=>hc j hj) hv;refine⟨u,w,ρ,im,.inl ?_,h,h2⟩;rw [Nat.add_zero]at h1;simp [execOp,ho,hu,Instr.loadAt,Instr.sureAddr,h1]
end
end Go.Vl
