/-
  UA, UB, UB2 (merged for the claim).
-/
import Derived.Below
import Derived.Laws.AppendOwn
import Derived.Laws.MakeOwn
import Derived.CallsIn
import Derived.RangeFuncRecord
import Derived.Lib.TrailingZeros
set_option linter.unusedSimpArgs false
set_option linter.unusedVariables false
namespace Go.Vl
inductive PV where
 |bool (b:Bool)
 |int (k:IntKind) (n:Int)
 |str (s:ByteArray)
 |nilS
 |slc (es:List PV)
 |agg (cs:List PV)
 |tup (vs:List PV)
 |fn (f:FuncId) (first cap:List PV)
 |nilF
 |rp (cs:List PV)
 |bp (b esz i off:Nat)
 |bs (b esz off len:Nat)
 |undef
 |yld (l stop:Nat)
 |nilI
 |mp (b:Nat)
 |nilM
 |anyB
 |nilP
def PV.cells:PV→List PV
 | .agg cs=>cs
 |v=>[v]
abbrev Im:=Nat→Nat→Prop
mutual
inductive Rep (w:World) (im:Im):PV→Value→Prop
 |bool (b:Bool):Rep w im (.bool b) (.bool b)
 |int (k:IntKind) (n:Int):Rep w im (.int k n) (.int k n)
 |str (s:ByteArray):Rep w im (.str s) (.string s)
 |nilS:Rep w im .nilS (.slice none 0 0)
 |slcNil (c:Nat) (hm:c≤maxLen):Rep w im (.slc []) (.slice none 0 c)
 |slcE (p:Addr) (cap:Nat) (hm:cap≤maxLen):Rep w im (.slc []) (.slice (some p) 0 cap)
 |slc (es:List PV) (g off len cap sz:Nat) (vs:List Value) (hn:es.length=len) (hm:cap≤maxLen) (hz: ∀e∈es,e.cells.length=sz)
   (hi: ∀j,j<vs.length→im g (off+j)) (hc: ∀j,j<vs.length→w.cell? ⟨g,off+j,none⟩=vs[j]?)
   (hr:RepL w im (es.flatMap PV.cells) vs) (hcap:len≤cap):Rep w im (.slc es) (.slice (some ⟨g,off,none⟩) len cap)
 |agg (cs:List PV) (vs:List Value) (h:RepL w im cs vs):Rep w im (.agg cs) (.agg vs.toArray)
 |tup (cs:List PV) (vs:List Value) (h:RepL w im cs vs):Rep w im (.tup cs) (.tuple vs.toArray)
 |fn (f:FuncId) (first cap:List PV) (a b:List Value) (ha:RepL w im first a) (hb:RepL w im cap b):
   Rep w im (.fn f first cap) (.func (.func f) a.toArray b.toArray)
 |nilF:Rep w im .nilF .nilFunc
 |nilI:Rep w im .nilI .nilIface
 |anyB (b:Bool):Rep w im .anyB (.bool b)
 |nilM:Rep w im .nilM (.map none)
 |nilP:Rep w im .nilP (.pointer none)
 |yld (l stop:Nat):Rep w im (.yld l stop) (.func (.yield l) #[] #[])
 |rp (cs:List PV) (g off:Nat) (vs:List Value) (hi: ∀j,j<vs.length→im g (off+j))
   (hc: ∀j,j<vs.length→w.cell? ⟨g,off+j,none⟩=vs[j]?) (hr:RepL w im cs vs):Rep w im (.rp cs) (.pointer (some ⟨g,off,none⟩))
inductive RepL (w:World) (im:Im):List PV→List Value→Prop
 |nil:RepL w im [] []
 |cons (v:PV) (u:Value) (vs:List PV) (us:List Value) (h:Rep w im v u) (t:RepL w im vs us):RepL w im (v::vs) (u::us)
end
abbrev Rho:=Nat→Option (Option Nat)
mutual
inductive LR (w:World) (im:Im) (ρ:Rho):PV→Value→Prop
 |ext (v:PV) (u:Value) (h:Rep w im v u):LR w im ρ v u
 |undef (u:Value):LR w im ρ .undef u
 |bp (b esz i off g o:Nat) (h:ρ b=some (some g)) (ho:o=i*esz+off):LR w im ρ (.bp b esz i off) (.pointer (some ⟨g,o,none⟩))
 |bsNil (b esz:Nat) (x:Option (Nat×Nat)) (h:ρ b=some none):LR w im ρ (.bs b esz 0 0) (.slice (x.map fun p=>⟨p.1,p.2,none⟩) 0 0)
 |bs (b esz off len g o cap:Nat) (cur:Array Value) (e:TypeId) (h:ρ b=some (some g)) (ho:w.heap[g]? =some (.cells cur e (0,0)))
   (hoff:o=off*esz) (hc:o+cap*esz≤cur.size) (hl:len≤cap) (hm:cap≤maxLen):LR w im ρ (.bs b esz off len) (.slice (some ⟨g,o,none⟩) len cap)
 |mp (b g:Nat) (h:ρ b=some (some g)):LR w im ρ (.mp b) (.map (some g))
 |agg (cs:List PV) (vs:List Value) (h:LRL w im ρ cs vs):LR w im ρ (.agg cs) (.agg vs.toArray)
 |tup (cs:List PV) (vs:List Value) (h:LRL w im ρ cs vs):LR w im ρ (.tup cs) (.tuple vs.toArray)
 |fn (f:FuncId) (first cap:List PV) (a b:List Value) (ha:LRL w im ρ first a) (hb:LRL w im ρ cap b):
   LR w im ρ (.fn f first cap) (.func (.func f) a.toArray b.toArray)
inductive LRL (w:World) (im:Im) (ρ:Rho):List PV→List Value→Prop
 |nil:LRL w im ρ [] []
 |cons (v:PV) (u:Value) (vs:List PV) (us:List Value) (h:LR w im ρ v u) (t:LRL w im ρ vs us):LRL w im ρ (v::vs) (u::us)
end
def Zvr:Obj→Bool
 | .deferred _=>true
 |_=>false
structure Keeps (im:Im) (w w':World):Prop where
 cell: ∀g j,im g j→w'.cell? ⟨g,j,none⟩=w.cell? ⟨g,j,none⟩
 obj: ∀(g:Nat) (cur:Array Value) (e:TypeId),w.heap[g]? =some (Obj.cells cur e (0,0))→ ∃cur':Array Value,w'.heap[g]? =some (Obj.cells cur' e (0,0))∧cur'.size=cur.size
 oth: ∀(g:Nat) (o:Obj),w.heap[g]? =some o→Zvr o=true→w'.heap[g]? =some o
theorem Keeps.refl (im:Im) (w:World):Keeps im w w:=⟨fun _ _ _=>rfl,fun _ cur _ h=>⟨cur,h,rfl⟩,fun _ _ h _=>h⟩
theorem Keeps.trans {im im':Im} {w w' w'':World} (h:Keeps im w w') (k:Keeps im' w' w'') (hi: ∀g j,im g j→im' g j):Keeps im w w'' where
 cell:=fun g j x=>(k.cell g j (hi g j x)).trans (h.cell g j x)
 obj:=fun g cur e x=>let ⟨c1,h1,s1⟩:=h.obj g cur e x;let ⟨c2,h2,s2⟩:=k.obj g c1 e h1;⟨c2,h2,s2.trans s1⟩
 oth:=fun g o x c=>k.oth g o (h.oth g o x c) c
mutual
theorem Rep.mono {w w':World} {im im':Im} (hk: ∀g j,im g j→w'.cell? ⟨g,j,none⟩=w.cell? ⟨g,j,none⟩) (hi: ∀g j,im g j→im' g j):
  ∀{v:PV} {u:Value},Rep w im v u→Rep w' im' v u
 |_,_,.bool b=> .bool b
 |_,_,.int k n=> .int k n
 |_,_,.str s=> .str s
 |_,_,.nilS=> .nilS
 |_,_,.slcNil c hm=> .slcNil c hm
 |_,_,.slcE p cap hm=> .slcE p cap hm
 |_,_,.slc es g off len cap sz vs hn hm hz h1 h2 hr hcap=>
  .slc es g off len cap sz vs hn hm hz (fun j hj=>hi _ _ (h1 j hj)) (fun j hj=>(hk _ _ (h1 j hj)).trans (h2 j hj)) (RepL.mono hk hi hr) hcap
 |_,_,.agg cs vs h=> .agg cs vs (RepL.mono hk hi h)
 |_,_,.tup cs vs h=> .tup cs vs (RepL.mono hk hi h)
 |_,_,.fn f a b c d h1 h2=> .fn f a b c d (RepL.mono hk hi h1) (RepL.mono hk hi h2)
 |_,_,.nilF=> .nilF
 |_,_,.nilI=> .nilI
 |_,_,.anyB b=> .anyB b
 |_,_,.nilM=> .nilM
 |_,_,.nilP=> .nilP
 |_,_,.yld l s=> .yld l s
 |_,_,.rp cs g off vs h1 h2 hr=> .rp cs g off vs (fun j hj=>hi _ _ (h1 j hj)) (fun j hj=>(hk _ _ (h1 j hj)).trans (h2 j hj)) (RepL.mono hk hi hr)
theorem RepL.mono {w w':World} {im im':Im} (hk: ∀g j,im g j→w'.cell? ⟨g,j,none⟩=w.cell? ⟨g,j,none⟩) (hi: ∀g j,im g j→im' g j):
  ∀{v:List PV} {u:List Value},RepL w im v u→RepL w' im' v u
 |_,_,.nil=> .nil
 |_,_,.cons v u vs us h t=> .cons v u vs us (Rep.mono hk hi h) (RepL.mono hk hi t)
end
mutual
theorem LR.mono0 {w w':World} {im im':Im} {ρ ρ':Rho} (hc0: ∀g j,im g j→w'.cell? ⟨g,j,none⟩=w.cell? ⟨g,j,none⟩)
  (hob: ∀(g:Nat) (cur:Array Value) (e:TypeId),w.heap[g]? =some (Obj.cells cur e (0,0))→ ∃cur':Array Value,w'.heap[g]? =some (Obj.cells cur' e (0,0))∧cur'.size=cur.size)
  (hi: ∀g j,im g j→im' g j) (hρ: ∀b x,ρ b=some x→ρ' b=some x):
  ∀{v:PV} {u:Value},LR w im ρ v u→LR w' im' ρ' v u
 |_,_,.ext v u h=> .ext v u (h.mono hc0 hi)
 |_,_,.undef u=> .undef u
 |_,_,.bp b esz i off g o h ho=> .bp b esz i off g o (hρ _ _ h) ho
 |_,_,.bsNil b esz x h=> .bsNil b esz x (hρ _ _ h)
 |_,_,.bs b esz off len g o cap cur e h ho hoff hc hl hm=>
  let ⟨cur',ho',hs⟩:=hob g cur e ho
  .bs b esz off len g o cap cur' e (hρ _ _ h) ho' hoff (by omega) hl hm
 |_,_,.mp b g h=> .mp b g (hρ _ _ h)
 |_,_,.agg cs vs h=> .agg cs vs (LRL.mono0 hc0 hob hi hρ h)
 |_,_,.tup cs vs h=> .tup cs vs (LRL.mono0 hc0 hob hi hρ h)
 |_,_,.fn f a b c d h1 h2=> .fn f a b c d (LRL.mono0 hc0 hob hi hρ h1) (LRL.mono0 hc0 hob hi hρ h2)
theorem LRL.mono0 {w w':World} {im im':Im} {ρ ρ':Rho} (hc0: ∀g j,im g j→w'.cell? ⟨g,j,none⟩=w.cell? ⟨g,j,none⟩)
  (hob: ∀(g:Nat) (cur:Array Value) (e:TypeId),w.heap[g]? =some (Obj.cells cur e (0,0))→ ∃cur':Array Value,w'.heap[g]? =some (Obj.cells cur' e (0,0))∧cur'.size=cur.size)
  (hi: ∀g j,im g j→im' g j) (hρ: ∀b x,ρ b=some x→ρ' b=some x):
  ∀{v:List PV} {u:List Value},LRL w im ρ v u→LRL w' im' ρ' v u
 |_,_,.nil=> .nil
 |_,_,.cons v u vs us h t=> .cons v u vs us (LR.mono0 hc0 hob hi hρ h) (LRL.mono0 hc0 hob hi hρ t)
end
theorem LR.mono {w w':World} {im im':Im} {ρ ρ':Rho} (hk:Keeps im w w') (hi: ∀g j,im g j→im' g j) (hρ: ∀b x,ρ b=some x→ρ' b=some x)
  {v:PV} {u:Value} (h:LR w im ρ v u):LR w' im' ρ' v u:=LR.mono0 hk.cell hk.obj hi hρ h
theorem LRL.mono {w w':World} {im im':Im} {ρ ρ':Rho} (hk:Keeps im w w') (hi: ∀g j,im g j→im' g j) (hρ: ∀b x,ρ b=some x→ρ' b=some x)
  {v:List PV} {u:List Value} (h:LRL w im ρ v u):LRL w' im' ρ' v u:=LRL.mono0 hk.cell hk.obj hi hρ h
theorem RepL.length {w:World} {im:Im}: ∀{vs:List PV} {us:List Value},RepL w im vs us→vs.length=us.length
 |_,_,.nil=>rfl
 |_,_,.cons _ _ _ _ _ t=>by simp [t.length]
theorem LRL.length {w:World} {im:Im} {ρ:Rho}: ∀{vs:List PV} {us:List Value},LRL w im ρ vs us→vs.length=us.length
 |_,_,.nil=>rfl
 |_,_,.cons _ _ _ _ _ t=>by simp [t.length]
theorem RepL.append {w:World} {im:Im} {asx bs:List PV} {us vs:List Value} (h:RepL w im asx us) (k:RepL w im bs vs):RepL w im (asx++bs) (us++vs):=by
 induction asx generalizing us with
 |nil=>cases h;exact k
 |cons a asx ih=>cases h with|cons _ u _ us h t=>exact .cons _ _ _ _ h (ih t)
theorem LRL.append {w:World} {im:Im} {ρ:Rho} {asx bs:List PV} {us vs:List Value} (h:LRL w im ρ asx us) (k:LRL w im ρ bs vs):LRL w im ρ (asx++bs) (us++vs):=by
 induction asx generalizing us with
 |nil=>cases h;exact k
 |cons a asx ih=>cases h with|cons _ u _ us h t=>exact .cons _ _ _ _ h (ih t)
theorem RepL.drop {w:World} {im:Im}: ∀(n:Nat) {asx:List PV} {us:List Value},RepL w im asx us→RepL w im (asx.drop n) (us.drop n)
 |0,_,_,h=>h
 |n+1,_,_,.nil=>by simpa using RepL.nil
 |n+1,_,_,.cons _ _ _ _ _ t=>by simpa using t.drop n
theorem RepL.take {w:World} {im:Im}: ∀(n:Nat) {asx:List PV} {us:List Value},RepL w im asx us→RepL w im (asx.take n) (us.take n)
 |0,_,_,_=>by simpa using RepL.nil
 |n+1,_,_,.nil=>by simpa using RepL.nil
 |n+1,_,_,.cons v u _ _ h t=>by simpa using RepL.cons v u _ _ h (t.take n)
theorem LRL.drop {w:World} {im:Im} {ρ:Rho}: ∀(n:Nat) {asx:List PV} {us:List Value},LRL w im ρ asx us→LRL w im ρ (asx.drop n) (us.drop n)
 |0,_,_,h=>h
 |n+1,_,_,.nil=>by simpa using LRL.nil
 |n+1,_,_,.cons _ _ _ _ _ t=>by simpa using t.drop n
theorem LRL.take {w:World} {im:Im} {ρ:Rho}: ∀(n:Nat) {asx:List PV} {us:List Value},LRL w im ρ asx us→LRL w im ρ (asx.take n) (us.take n)
 |0,_,_,_=>by simpa using LRL.nil
 |n+1,_,_,.nil=>by simpa using LRL.nil
 |n+1,_,_,.cons v u _ _ h t=>by simpa using LRL.cons v u _ _ h (t.take n)
theorem RepL.get {w:World} {im:Im} {asx:List PV} {us:List Value} (h:RepL w im asx us) (n:Nat) (v:PV) (hv:asx[n]? =some v): ∃u,us[n]? =some u∧Rep w im v u:=by
 induction asx generalizing us n with
 |nil=>simp at hv
 |cons a asx ih=>cases h with
  |cons _ u _ us h t=>cases n with
   |zero=>simp at hv;subst hv;exact⟨u,rfl,h⟩
   |succ n=>exact ih t n (by simpa using hv)
theorem LRL.get {w:World} {im:Im} {ρ:Rho} {asx:List PV} {us:List Value} (h:LRL w im ρ asx us) (n:Nat) (v:PV) (hv:asx[n]? =some v): ∃u,us[n]? =some u∧LR w im ρ v u:=by
 induction asx generalizing us n with
 |nil=>simp at hv
 |cons a asx ih=>cases h with
  |cons _ u _ us h t=>cases n with
   |zero=>simp at hv;subst hv;exact⟨u,rfl,h⟩
   |succ n=>exact ih t n (by simpa using hv)
theorem RepL.toLRL {w:World} {im:Im} {ρ:Rho}: ∀{asx:List PV} {us:List Value},RepL w im asx us→LRL w im ρ asx us
 |_,_,.nil=> .nil
 |_,_,.cons v u _ _ h t=> .cons v u _ _ (.ext _ _ h) t.toLRL
end Go.Vl

namespace Go.Vl
open Go.RowKit
def upd {α:Type} (f:Nat→α) (k:Nat) (x:α):Nat→α:=fun j=>if j=k then x else f j
theorem Qao {α:Type} (f:Nat→α) (k:Nat) (x:α):upd f k x k=x:=by simp [upd]
theorem Qal {α:Type} (f:Nat→α) (k j:Nat) (x:α) (h:j≠k):upd f k x j=f j:=by simp [upd,h]
structure Box where
 els:List PV
 esz:Nat
 ety:TypeId
 fro:Nat
 live:Bool
 arr:Bool
 mp:Option (List (PV×PV)):=none
abbrev Yl:=Option (Nat×Nat×List (List PV))
def yOk (y:Yl) (n stop:Nat) (o:List (List PV)) (args:List PV):Prop:=match y with
 |some (n',stop',outs)=>n=n'∧stop=stop'∧o.length≤stop∧outs[o.length]? =some args
 |none=>False
structure St where
 var:Nat→Option PV
 box:Nat→Option Box
 out:List (List PV)
 yl:Yl
def St.setVar (st:St) (t:Nat) (v:PV):St:={st with var:=upd st.var t (some v)}
def St.setBox (st:St) (b:Nat) (B:Box):St:={st with box:=upd st.box b (some B)}
def PV.okCell:PV→Bool
 | .agg _| .tup _| .undef=>false
 |_=>true
theorem St.ext'' {s t:St} (h1:s.var=t.var) (h2:s.box=t.box) (h3:s.out=t.out) (h4:s.yl=t.yl):s=t:=by cases s;cases t;simp_all
structure Lent (X:Nat→Prop) (B:Nat) (w w':World):Prop where
 os:w'.os=w.os
 tape:w'.tape=w.tape
 output:w'.output=w.output
 size:w.heap.size≤w'.heap.size
 block: ∀k,k<B→ ¬X k→w'.heap[k]? =w.heap[k]?
theorem Lent.refl (X:Nat→Prop) (B:Nat) (w:World):Lent X B w w:=⟨rfl,rfl,rfl,Nat.le_refl _,fun _ _ _=>rfl⟩
theorem Lent.trans {X:Nat→Prop} {B:Nat} {a b c:World} (h:Lent X B a b) (k:Lent X B b c):Lent X B a c:=
 ⟨k.os.trans h.os,k.tape.trans h.tape,k.output.trans h.output,Nat.le_trans h.size k.size,fun i hi hx=>(k.block i hi hx).trans (h.block i hi hx)⟩
theorem Lent.mono {X X':Nat→Prop} {B B':Nat} {w w':World} (h:Lent X B w w') (hB:B'≤B) (hX: ∀k,k<B'→X k→X' k):Lent X' B' w w':=
 ⟨h.os,h.tape,h.output,h.size,fun k hk hx=>h.block k (Nat.lt_of_lt_of_le hk hB) fun y=>hx (hX k hk y)⟩
theorem Lent.of_below {X:Nat→Prop} {B:Nat} {w w':World} (h:Below B w w'):Lent X B w w':=⟨h.os,h.tape,h.output,h.size,fun k hk _=>h.block k hk⟩
theorem Lent.below {B:Nat} {w w':World} (h:Lent (fun _=>False) B w w'):Below B w w':=⟨h.os,h.tape,h.output,h.size,fun k hk=>h.block k hk id⟩
def Own (ρ:Rho) (g:Nat):Prop:= ∃b,ρ b=some (some g)
structure Step (ρ:Rho) (im:Im) (w:World) (ρ':Rho) (im':Im) (w':World):Prop where
 lent:Lent (Own ρ) w.heap.size w w'
 keep:Keeps im w w'
 own: ∀g,Own ρ' g→Own ρ g∨w.heap.size≤g
 mono: ∀g j,im g j→im' g j
 imn: ∀g j,im' g j→im g j∨Own ρ g∨w.heap.size≤g
structure Turn (X:Nat→Prop) (B:Nat) (ρ:Rho) (im:Im) (w w':World):Prop where
 lent:Lent X B w w'
 keep:Keeps im w w'
 own: ∀g,Own ρ g→w'.heap[g]? =w.heap[g]?
def Qwd:String:= "internal/strconv.uint64pow10"
def Z0d:Array Value:=((List.range 20).map fun i=>Value.int .u64 ((10^i:Nat):Int)).toArray
def Zcb:String:= "math/bits.deBruijn64tab"
def Z2k:Array Value:=(Go.Lib.deBruijn64tab.map fun(z:Nat)=>Value.int .u8 (z:Int)).toArray
def Laid (P:Program) (F:Nat) (w:World):Prop:= ∀nm tab,(nm=Qwd∧tab=Z0d)∨(nm=Zcb∧tab=Z2k)→ ∀g,P.globalNamed nm=some g→g<F∧w.var? P nm=some tab
theorem Laid.keep {P:Program} {F:Nat} {w w':World} (h:Laid P F w) (hk: ∀k,k<F→w'.heap[k]? =w.heap[k]?):Laid P F w':=fun nm tab hn g hg=>by
 obtain⟨h1,h2⟩:=h nm tab hn g hg;refine⟨h1,?_⟩;rw [←h2];simp only [World.var?,hg,Option.bind_some,hk g h1]
structure Ctx where
 P:Program
 w0:World
 /-- a floor,above which all that turns lies -/
 F:Nat
 hF:F≤w0.heap.size
 lay:Laid P F w0
 im0:Im
 nt:Nat
 /-- whether this is a round of a loop -/
 rnd:Bool:=true
 /-- the boxes that the caller lends -/
 ρ0:Rho
 /-- the blocks that may turn -/
 X:Nat→Prop
 hX: ∀g,Own ρ0 g→X g
 hXF: ∀g,X g→F≤g
 /-- what is known of the world beside,by what has been handed out -/
 J:(Nat→Prop)→Im→List (List PV)→World→Prop
 hJ: ∀{ρ im w ρ' im' w'} (o:List (List PV)),Step ρ im w ρ' im' w'→J (Own ρ) im o w→J (Own ρ') im' o w'
 /-- the loop whose body yield calls,and after how many calls it is left -/
 yl:Yl
 hY: ∀{l stop:Nat} {outs:List (List PV)},yl=some (l,stop,outs)→ ∀{ρ:Rho} {im:Im} {w:World} (o:List (List PV)) (args:List PV) (us:List Value),o.length≤stop→outs[o.length]? =some args→J (Own ρ) im o w→(∀g,Own ρ g→g<w.heap.size)→(∀g j,im g j→ ∃u,w.cell? ⟨g,j,none⟩=some u)→
  RepL w im args us→w0.heap.size≤w.heap.size→ ∃fn tmps assign body,(Instr.yield l us.toArray).run P w= .ok (.round l fn tmps assign body) w∧
   RoundIn Fence.wide 0 P l fn tmps assign body w fun e w'=>e= .returned (.bool (decide (o.length<stop)))∧Turn X w0.heap.size ρ im w w'∧J (Own ρ) im (o++[args]) w'
def Ctx.base (C:Ctx):Nat:=C.w0.heap.size
def Ctx.own (C:Ctx) (g:Nat):Prop:=C.base≤g∨Own C.ρ0 g
abbrev LENT:Nat:=1000000
def Qmx (w:World) (im:Im) (B:Box) (g:Nat):Prop:=
 B.els=[]∧B.arr=true∧B.live=true∧ ∃es ms clock,B.mp=some es∧w.heap[g]? =some (Obj.map ms clock)∧RepL w im (es.map (·.1)) (ms.toList.map (·.key))∧RepL w im (es.map (·.2)) (ms.toList.map (·.val))∧clock=ms.size∧ ∀(i:Nat) (e:MapEntry),ms.toList[i]? =some e→e.born=i
def Qda (own:Nat→Prop) (w:World) (im:Im) (ρ:Rho) (B:Box):Option Nat→Prop
 |none=>B.els=[]∧B.arr=true∧B.fro=0∧0<B.esz
 |some g=>own g∧B.fro≤B.els.length∧0<B.esz∧(∀e∈B.els,e.cells.length=B.esz)∧
   ((B.mp=none∧ ∃(cur:Array Value) (us rest:List Value),w.heap[g]? =some (Obj.cells cur B.ety (0,0))∧cur.toList=us++rest∧
    LRL w im ρ (B.els.flatMap PV.cells) us∧(B.arr=true→RepL w im (B.els.flatMap PV.cells) us)∧(∀u∈us,u.oneCell'=true)∧
    (∀j,j<us.length→(j<B.fro*B.esz∨B.live=false)→im g j)∧(B.live=true→ ∀j,B.fro*B.esz≤j→ ¬im g j))∨Qmx w im B g)
theorem Qmx.lt {w:World} {im:Im} {B:Box} {g:Nat} (h:Qmx w im B g):g<w.heap.size:=by
 obtain⟨_,_,_,_,_,_,_,h,_⟩:=h;exact(Array.getElem?_eq_some_iff.1 h).1
theorem Qmx.not_cells {w:World} {im:Im} {B:Box} {g:Nat} {cur:Array Value} {e:TypeId} (h:Qmx w im B g) (hc:w.heap[g]? =some (Obj.cells cur e (0,0))):False:=by
 obtain⟨_,_,_,_,_,_,_,h,_⟩:=h;rw [h]at hc;cases hc
theorem Qmx.mono {w w':World} {im im':Im} {B:Box} {g:Nat} (h:Qmx w im B g) (hk: ∀g j,im g j→w'.cell? ⟨g,j,none⟩=w.cell? ⟨g,j,none⟩) (hi: ∀g j,im g j→im' g j) (ho:w'.heap[g]? =w.heap[g]?):Qmx w' im' B g:=by
 obtain⟨h1,h2,h3,es,ms,clock,h4,h5,h6,h7,h8⟩:=h;exact⟨h1,h2,h3,es,ms,clock,h4,by rw [ho];exact h5,h6.mono hk hi,h7.mono hk hi,h8⟩
structure Root (C:Ctx) (o:List (List PV)) (y:Yl) (w:World) (ρ:Rho) (im:Im):Prop where
 below:Lent C.X C.base C.w0 w
 keep:Keeps C.im0 C.w0 w
 im0: ∀g j,C.im0 g j→im g j
 im1: ∀g j,im g j→C.im0 g j∨C.own g
 rho0: ∀b x x',LENT≤b→C.ρ0 b=some x→ρ b=some x'→x'=x
 ghost:C.J (Own ρ) im o w
 yl:y=C.yl
def Marks (C:Ctx) (a:Act) (w:World):Prop:=(C.yl≠none∧C.rnd=true→a.defers=[])∧ ∃Ds:List Nat,a.defers=Ds.map (fun D=>{target:= .collected D,args:= #[]})∧Ds.Nodup∧ ∀D∈Ds,C.base≤D∧w.heap[D]? =some (.deferred (some []))
structure Rel' (C:Ctx) (st:St) (a:Act) (w:World) (ρ:Rho) (im:Im):Prop where
 root:Root C st.out st.yl w ρ im
 nt:a.tmps.size=C.nt
 dfr:Marks C a w
 imc: ∀g j,im g j→ ∃u,w.cell? ⟨g,j,none⟩=some u
 var: ∀t v,st.var t=some v→LR w im ρ v (a.tmps.getD t undef)
 rho: ∀b,ρ b=none↔st.box b=none
 box: ∀b x B,ρ b=some x→st.box b=some B→Qda C.own w im ρ B x
 inj: ∀b b' g B B',ρ b=some (some g)→ρ b'=some (some g)→st.box b=some B→st.box b'=some B'→B.live=true→B'.live=true→b=b'
def Rel (C:Ctx) (st:St) (a:Act) (w:World):Prop:= ∃ρ im,Rel' C st a w ρ im
theorem Rel'.ownB {C:Ctx} {st:St} {a:Act} {w:World} {ρ:Rho} {im:Im} (h:Rel' C st a w ρ im) {g:Nat} (hg:Own ρ g):C.own g∧g<w.heap.size:=by
 obtain⟨b,hb⟩:=hg;cases hB:st.box b with
 |none=>rw [(h.rho b).2 hB]at hb;cases hb
 |some B=>
  obtain⟨h1,_,_,_,⟨hmn,cur,us,rest,h5,_⟩|hm⟩:=h.box b _ B hb hB
  ·exact⟨h1,(Array.getElem?_eq_some_iff.1 h5).1⟩
  ·exact⟨h1,hm.lt⟩
theorem Rel'.laid {C:Ctx} {st:St} {a:Act} {w:World} {ρ:Rho} {im:Im} (h:Rel' C st a w ρ im):Laid C.P C.F w∧C.F≤w.heap.size∧ ∀g,Own ρ g→C.F≤g:=by
 refine⟨C.lay.keep fun k hk=>h.root.below.block k (Nat.lt_of_lt_of_le hk C.hF) fun x=>absurd (C.hXF k x) (Nat.not_le.2 hk),Nat.le_trans C.hF h.root.below.size,fun g hg=> ?_⟩;rcases(h.ownB hg).1 with x|x
 ·exact Nat.le_trans C.hF x
 ·exact C.hXF g (C.hX g x)
theorem Rel'.step {C:Ctx} {st:St} {a:Act} {w w':World} {ρ ρ':Rho} {im im':Im} (h:Rel' C st a w ρ im) (s:Step ρ im w ρ' im' w')
  (hr: ∀b x x',LENT≤b→C.ρ0 b=some x→ρ' b=some x'→x'=x):Root C st.out st.yl w' ρ' im' where
 below:=h.root.below.trans (s.lent.mono h.root.below.size fun k hk hx=>C.hX k ((h.ownB hx).1.elim (fun y=>absurd hk (Nat.not_lt.2 y)) id))
 keep:=h.root.keep.trans s.keep h.root.im0
 im0:=fun g j x=>s.mono g j (h.root.im0 g j x)
 im1:=fun g j x=>(s.imn g j x).elim (h.root.im1 g j) fun y=> .inr (y.elim (fun z=>(h.ownB z).1) fun z=> .inl (Nat.le_trans h.root.below.size z))
 rho0:=hr
 ghost:=C.hJ _ s h.root.ghost
 yl:=h.root.yl
theorem Qhe {C:Ctx} {a:Act} {w w':World} {im:Im} (hk:Keeps im w w') (h:Marks C a w):Marks C a w':=
 let ⟨h0,Ds,e,n,hD⟩:=h
 ⟨h0,Ds,e,n,fun D hd=>⟨(hD D hd).1,hk.oth D _ (hD D hd).2 rfl⟩⟩
theorem LR.oneCell {w:World} {im:Im} {ρ:Rho} {v:PV} {u:Value} (h:LR w im ρ v u) (ho:v.okCell=true):u.oneCell'=true:=by
 cases h with
 |ext _ _ h=>cases h<;>first|rfl|simp [PV.okCell]at ho
 |undef _=>simp [PV.okCell]at ho
 |agg _ _ _=>simp [PV.okCell]at ho
 |tup _ _ _=>simp [PV.okCell]at ho
 |_=>rfl
theorem LRL.oneCells {w:World} {im:Im} {ρ:Rho}: ∀{vs:List PV} {us:List Value},LRL w im ρ vs us→vs.all PV.okCell=true→ ∀u∈us,u.oneCell'=true
 |_,_,.nil,_=>by simp
 |_,_,.cons v u vs us h t,ho=>by
  simp only [List.all_cons,Bool.and_eq_true]at ho;intro x hx;rcases List.mem_cons.1 hx with rfl|hx
  ·exact h.oneCell ho.1
  ·exact t.oneCells ho.2 x hx
theorem Qda.mono {own:Nat→Prop} {w w':World} {im im':Im} {ρ ρ':Rho} {B:Box} {x:Option Nat} (h:Qda own w im ρ B x) (hk:Keeps im w w')
  (hi: ∀g j,im g j→im' g j) (hi2:B.live=true→ ∀g j,x=some g→im' g j→im g j) (hρ: ∀b x,ρ b=some x→ρ' b=some x)
  (ho:B.live=true→ ∀g,x=some g→w'.heap[g]? =w.heap[g]?):Qda own w' im' ρ' B x:=by
 cases x with
 |none=>exact h
 |some g=>
  obtain⟨h1,h2,h3,h4,⟨hmn,cur,us,rest,h5,h6,h7,h8,h9,h10,h11⟩|hm⟩:=h
  case inr=>exact⟨h1,h2,h3,h4,.inr (hm.mono hk.cell hi (ho hm.2.2.1 g rfl))⟩
  by_cases hl:B.live=true
  ·exact⟨h1,h2,h3,h4,.inl ⟨hmn,cur,us,rest,(ho hl g rfl).trans h5,h6,h7.mono hk hi hρ,fun ha=>(h8 ha).mono hk.cell hi,h9,
    fun j hj hh=>hi _ _ (h10 j hj hh),fun hl j hj hh=>h11 hl j hj (hi2 hl g j rfl hh)⟩⟩
  ·have hl':B.live=false:=by simpa using hl
   obtain⟨cur',hc',hs⟩:=hk.obj g cur B.ety h5;have key:cur'.toList=us++cur'.toList.drop us.length:=by
    have hu:us=cur.toList.take us.length:=by rw [h6];simp
    have hle:us.length≤cur.size:=by rw [←Array.length_toList,h6];simp
    have ht:cur'.toList.take us.length=us:=by
     apply List.ext_getElem?;intro j;by_cases hj:j<us.length
     ·have e1:=hk.cell g j (h10 j hj (.inr hl'));rw [cell_of_row w' g j cur' B.ety (0,0) hc',cell_of_row w g j cur B.ety (0,0) h5]at e1;rw [List.getElem?_take_of_lt hj,Array.getElem?_toList,e1,←Array.getElem?_toList,h6,List.getElem?_append_left hj]
     ·rw [List.getElem?_eq_none (by simp;omega),List.getElem?_eq_none (by omega)]
    conv=>lhs;rw [←List.take_append_drop us.length cur'.toList,ht]
   exact⟨h1,h2,h3,h4,.inl ⟨hmn,cur',us,cur'.toList.drop us.length,hc',key,h7.mono hk hi hρ,fun ha=>(h8 ha).mono hk.cell hi,h9,
    fun j hj hh=>hi _ _ (h10 j hj hh),fun hl=>by rw [hl']at hl;cases hl⟩⟩
theorem Qa9 (w:World) (D:Nat) (o:Obj) (g:Nat) (h:g≠D):(w.putObj D o).heap[g]? =w.heap[g]? :=by
 have: ¬D=g:=fun e=>h e.symm;simp [World.putObj,Array.getElem?_modify,this]
theorem Rel'.unmark {C:Ctx} {st:St} {tmps:Array Value} {Ds:List Nat} {D:Nat} {w:World} {ρ:Rho} {im:Im} (h:Rel' C st {tmps:=tmps,defers:=(D::Ds).map fun D=>{target:= .collected D,args:= #[]}} w ρ im)
  (hJ: ∀own im o w,C.J own im o w) (hn:(D::Ds).Nodup) (hD: ∀E∈D::Ds,C.base≤E∧w.heap[E]? =some (.deferred (some []))):
  Rel' C st {tmps:=tmps,defers:=Ds.map fun D=>{target:= .collected D,args:= #[]}} (w.putObj D (.deferred none)) ρ im:=by
 have hD0:=(hD D (by simp)).2;have hB0:=(hD D (by simp)).1;have hoth: ∀g,g≠D→(w.putObj D (.deferred none)).heap[g]? =w.heap[g]? :=fun g hg=>Qa9 w D _ g hg;have hcell: ∀g j,im g j→(w.putObj D (.deferred none)).cell? ⟨g,j,none⟩=w.cell? ⟨g,j,none⟩:=by
  intro g j hi;by_cases e:g=D
  ·subst e;obtain⟨u,hu⟩:=h.imc g j hi;exfalso;simp [World.cell?,hD0]at hu
  ·exact World.cell?_of_block (w:=w) (a:=⟨g,j,none⟩) (hoth g e)
 have hobj: ∀(g:Nat) (cur:Array Value) (e:TypeId),w.heap[g]? =some (Obj.cells cur e (0,0))→ ∃cur':Array Value,(w.putObj D (.deferred none)).heap[g]? =some (Obj.cells cur' e (0,0))∧cur'.size=cur.size:=by
  intro g cur e hg;refine⟨cur,?_,rfl⟩;rw [hoth g (by rintro rfl;rw [hD0]at hg;cases hg)];exact hg
 have hsz:(w.putObj D (.deferred none)).heap.size=w.heap.size:=by simp [World.putObj]
 refine⟨⟨h.root.below.trans ⟨rfl,rfl,rfl,by rw [hsz];exact Nat.le_refl _,fun k hk _=>hoth k (by omega)⟩,⟨?_,?_,?_⟩,h.root.im0,h.root.im1,h.root.rho0,hJ _ _ _ _,h.root.yl⟩,h.nt,⟨fun x=>absurd (h.dfr.1 x) (by simp),Ds,rfl,(List.nodup_cons.1 hn).2,?_⟩,?_,?_,h.rho,?_,h.inj⟩
 ·exact fun g j hi=>(hcell g j (h.root.im0 g j hi)).trans (h.root.keep.cell g j hi)
 ·intro g cur e hg;obtain⟨c1,h1,s1⟩:=h.root.keep.obj g cur e hg;obtain⟨c2,h2,s2⟩:=hobj g c1 e h1;exact⟨c2,h2,s2.trans s1⟩
 ·intro g o hg hc;have hlt:g<C.w0.heap.size:=(Array.getElem?_eq_some_iff.1 hg).1;rw [hoth g (by have:C.w0.heap.size≤D:=hB0;omega)];exact h.root.keep.oth g o hg hc
 ·intro E hE;refine⟨(hD E (by simp [hE])).1,?_⟩;rw [hoth E (by rintro rfl;exact(List.nodup_cons.1 hn).1 hE)];exact(hD E (by simp [hE])).2
 ·intro g j hi;rw [hcell g j hi];exact h.imc g j hi
 ·exact fun t v hv=>LR.mono0 hcell hobj (fun _ _ x=>x) (fun _ _ x=>x) (h.var t v hv)
 ·intro b x B hx hB;have hb:=h.box b x B hx hB;cases x with
  |none=>exact hb
  |some g=>
   obtain⟨h1,h2,h3,h4,⟨hmn,cur,us,rest,h5,h6,h7,h8,h9,h10,h11⟩|hm⟩:=hb
   case inr=>
    refine⟨h1,h2,h3,h4,.inr (hm.mono hcell (fun _ _ x=>x) (hoth g ?_))⟩;rintro rfl;obtain⟨_,_,_,_,_,_,_,h5,_⟩:=hm;rw [hD0]at h5;cases h5
   refine⟨h1,h2,h3,h4,.inl ⟨hmn,cur,us,rest,?_,h6,LRL.mono0 hcell hobj (fun _ _ x=>x) (fun _ _ x=>x) h7,fun ha=>(h8 ha).mono hcell fun _ _ x=>x,h9,h10,h11⟩⟩;rw [hoth g (by rintro rfl;rw [hD0]at h5;cases h5)];exact h5
theorem Rel'.world {C:Ctx} {st:St} {a:Act} {w w':World} {ρ:Rho} {im:Im} (h:Rel' C st a w ρ im) (hb:Lent (Own ρ) w.heap.size w w')
  (hk:Keeps im w w') (ho: ∀b g B,ρ b=some (some g)→st.box b=some B→B.live=true→w'.heap[g]? =w.heap[g]?):Rel' C st a w' ρ im where
 root:=h.step ⟨hb,hk,fun _ x=> .inl x,fun _ _ x=>x,fun _ _ x=> .inl x⟩ h.root.rho0
 nt:=h.nt
 dfr:=Qhe hk h.dfr
 imc:=fun g j hi=>by rw [hk.cell g j hi];exact h.imc g j hi
 var:=fun t v hv=>(h.var t v hv).mono hk (fun _ _ x=>x) (fun _ _ x=>x)
 rho:=h.rho
 box:=fun b x B hx hB=>(h.box b x B hx hB).mono hk (fun _ _ x=>x) (fun _ _ _ _ x=>x) (fun _ _ x=>x) (fun hl g hg=>ho b g B (by rw [hx,hg]) hB hl)
 inj:=h.inj
theorem Keeps.of_below {im:Im} {w w':World} (hb:Below w.heap.size w w') (hi: ∀g j,im g j→ ∃u,w.cell? ⟨g,j,none⟩=some u):Keeps im w w' where
 cell:=fun g j h=>by
  obtain⟨u,hu⟩:=hi g j h;exact hb.cell (p:=⟨g,j,none⟩) (World.block_lt_of_cell? w _ hu)
 obj:=fun g cur e h=>⟨cur,by rw [hb.block g (Array.getElem?_eq_some_iff.1 h).1];exact h,rfl⟩
 oth:=fun g o h _=>by rw [hb.block g (Array.getElem?_eq_some_iff.1 h).1];exact h
theorem Rel'.block_lt {C:Ctx} {st:St} {a:Act} {w:World} {ρ:Rho} {im:Im} (h:Rel' C st a w ρ im) {b g:Nat} (hg:ρ b=some (some g)):
  g<w.heap.size∧C.own g:=(h.ownB ⟨b,hg⟩).symm
theorem Rel'.below_call {C:Ctx} {st:St} {a:Act} {w w':World} {ρ:Rho} {im:Im} (h:Rel' C st a w ρ im) (hb:Below w.heap.size w w'):
  Rel' C st a w' ρ im:=
 h.world (.of_below hb) (Keeps.of_below hb h.imc) fun b g _ hg _ _=>hb.block g (h.block_lt hg).1
theorem Rel'.grow {C:Ctx} {st:St} {a:Act} {w0 w:World} {ρ:Rho} {im im':Im} (h0:Rel' C st a w0 ρ im) (hb:Lent (Own ρ) w0.heap.size w0 w) (hk:Keeps im w0 w) (h:Rel' C st a w ρ im) (hi: ∀g j,im g j→im' g j)
  (hn: ∀g j,im' g j→im g j∨(w0.heap.size≤g∧(∃u,w.cell? ⟨g,j,none⟩=some u)∧ ∀b,ρ b≠some (some g))):Rel' C st a w ρ im' where
 root:=h0.step ⟨hb,hk,fun _ x=> .inl x,hi,fun g j x=>(hn g j x).elim .inl fun y=> .inr (.inr y.1)⟩ h.root.rho0
 nt:=h.nt
 dfr:=h.dfr
 imc:=fun g j x=>(hn g j x).elim (h.imc g j) fun y=>y.2.1
 var:=fun t v hv=>(h.var t v hv).mono (Keeps.refl _ _) hi (fun _ _ x=>x)
 rho:=h.rho
 box:=fun b x B hx hB=>(h.box b x B hx hB).mono (Keeps.refl _ _) hi (fun _ g j e hh=>(hn g j hh).elim id fun y=>absurd (by rw [hx,e]) (y.2.2 b)) (fun _ _ x=>x) (fun _ _ _=>rfl)
 inj:=h.inj
theorem Rel'.setVar {C:Ctx} {st:St} {a:Act} {w:World} {ρ:Rho} {im:Im} (h:Rel' C st a w ρ im) {t:Nat} (ht:t<C.nt) {v:PV} {u:Value} (hv:LR w im ρ v u):
  Rel' C (st.setVar t v) (a.put (some t) u) w ρ im where
 root:=h.root
 nt:=by simpa [Act.put]using h.nt
 dfr:=h.dfr
 imc:=h.imc
 var:=fun t' v' hv'=>by
  simp only [St.setVar,upd]at hv';simp only [Act.put];by_cases e:t'=t
  ·subst e;simp at hv';subst hv';have:t'<a.tmps.size:=by rw [h.nt];exact ht
   simpa [Array.getD,this]using hv
  ·simp [e]at hv';have:=h.var t' v' hv';have hne: ¬t=t':=fun x=>e x.symm;simpa [Array.getElem?_setIfInBounds_ne hne]using this
 rho:=h.rho
 box:=h.box
 inj:=h.inj
theorem Rel'.newBox {C:Ctx} {st:St} {a:Act} {w:World} {ρ:Rho} {im:Im} (h:Rel' C st a w ρ im) {b:Nat} (hbL:b<LENT) (hb:st.box b=none) (B:Box) (us rest:List Value)
  (hf:B.fro=0) (hz:0<B.esz) (he: ∀e∈B.els,e.cells.length=B.esz) (hl:B.live=true) (hr:LRL w im ρ (B.els.flatMap PV.cells) us)
  (ha:B.arr=true→RepL w im (B.els.flatMap PV.cells) us) (h1: ∀u∈us,u.oneCell'=true) (hmp:B.mp=none:=by rfl):
  Rel' C (st.setBox b B) a (w.alloc (.cells (us++rest).toArray B.ety)) (upd ρ b (some (some w.heap.size))) im∧
   Keeps im w (w.alloc (.cells (us++rest).toArray B.ety))∧(∀b' x,ρ b'=some x→upd ρ b (some (some w.heap.size)) b'=some x):=by
 have hρb:ρ b=none:=(h.rho b).2 hb;have hρ: ∀b' x,ρ b'=some x→upd ρ b (some (some w.heap.size)) b'=some x:=by
  intro b' x hx;rw [Qal]
  ·exact hx
  ·rintro rfl;rw [hρb]at hx;cases hx
 have hbl:Below w.heap.size w (w.alloc (.cells (us++rest).toArray B.ety)):=(Below.refl _ _).alloc (Nat.le_refl _) _;have hk:Keeps im w (w.alloc (.cells (us++rest).toArray B.ety)):=Keeps.of_below hbl h.imc;have h':=h.below_call hbl;have hni: ∀j,¬im w.heap.size j:=fun j hj=>by
  obtain⟨u,hu⟩:=h.imc _ _ hj;have:=World.block_lt_of_cell? w _ hu;simp at this
 refine⟨⟨h.step ⟨.of_below hbl,hk,?_,fun _ _ x=>x,fun _ _ x=> .inl x⟩ ?_,h'.nt,h'.dfr,h'.imc,?_,?_,?_,?_⟩,hk,hρ⟩
 ·rintro g ⟨b',hb'⟩;by_cases e:b'=b
  ·subst e;simp only [Qao,Option.some.injEq]at hb';exact .inr (Nat.le_of_eq hb')
  ·rw [Qal _ _ _ _ e]at hb';exact .inl ⟨b',hb'⟩
 ·intro b' x x' hL hx hx';rw [Qal _ _ _ _ (by omega)]at hx';exact h.root.rho0 b' x x' hL hx hx'
 ·exact fun t v hv=>(h'.var t v hv).mono (Keeps.refl _ _) (fun _ _ x=>x) hρ
 ·intro b';by_cases e:b'=b
  ·subst e;simp [Qao,St.setBox]
  ·simp [Qal _ _ _ _ e,St.setBox,h.rho b']
 ·intro b' x B' hx hB';by_cases e:b'=b
  ·subst e;simp only [Qao,Option.some.injEq]at hx;simp only [St.setBox,Qao,Option.some.injEq]at hB';subst hx;subst hB';refine⟨.inl h.root.below.size,by omega,hz,he,.inl ⟨hmp,(us++rest).toArray,us,rest,heap_alloc_new w _,by simp,hr.mono hk (fun _ _ x=>x) hρ,fun x=>(ha x).mono hk.cell (fun _ _ x=>x),h1,?_,?_⟩⟩
   ·intro j _ hh;rcases hh with hh|hh
    ·rw [hf]at hh;omega
    ·rw [hl]at hh;cases hh
   ·exact fun _ j _=>hni j
  ·simp only [Qal _ _ _ _ e]at hx;simp only [St.setBox,Qal _ _ _ _ e]at hB';exact(h'.box b' x B' hx hB').mono (Keeps.refl _ _) (fun _ _ x=>x) (fun _ _ _ _ x=>x) hρ (fun _ _ _=>rfl)
 ·intro b1 b2 g B1 B2 g1 g2 e1 e2 l1 l2;simp only [upd]at g1 g2;simp only [St.setBox,upd]at e1 e2;by_cases x1:b1=b<;>by_cases x2:b2=b
  ·rw [x1,x2]
  ·simp [x1]at g1;simp [x2]at g2;have:=(h.block_lt g2).1;omega
  ·simp [x1]at g1;simp [x2]at g2;have:=(h.block_lt g1).1;omega
  ·simp [x1]at g1 e1;simp [x2]at g2 e2;exact h.inj b1 b2 g B1 B2 g1 g2 e1 e2 l1 l2
theorem Qau {esz:Nat}: ∀{els:List PV},(∀e∈els,e.cells.length=esz)→(els.flatMap PV.cells).length=els.length*esz
 | [],_=>by simp
 |e::es,h=>by
  simp only [List.flatMap_cons,List.length_append,List.length_cons];rw [h e (by simp),Qau (els:=es) (fun x hx=>h x (by simp [hx])),Nat.succ_mul];omega
theorem Qlr {esz:Nat}: ∀{els:List PV} {i j:Nat} {e:PV},(∀e∈els,e.cells.length=esz)→els[i]? =some e→j<esz→
  (els.flatMap PV.cells)[i*esz+j]? =e.cells[j]?
 | [],i,j,e,_,h,_=>by simp at h
 |x::xs,0,j,e,hz,h,hj=>by
  simp at h;subst h;simp only [List.flatMap_cons,Nat.zero_mul,Nat.zero_add];rw [List.getElem?_append_left (by rw [hz x (by simp)];exact hj)]
 |x::xs,i+1,j,e,hz,h,hj=>by
  simp only [List.flatMap_cons];rw [List.getElem?_append_right (by rw [hz x (by simp),Nat.succ_mul];omega),hz x (by simp)];have:(i+1)*esz+j-esz=i*esz+j:=by rw [Nat.succ_mul];omega
  rw [this];exact Qlr (fun y hy=>hz y (by simp [hy])) (by simpa using h) hj
theorem Qe6 {esz:Nat}: ∀{els:List PV} (i:Nat),(∀e∈els,e.cells.length=esz)→(els.flatMap PV.cells).drop (i*esz)=(els.drop i).flatMap PV.cells
 |_,0,_=>by simp
 | [],i+1,_=>by simp
 |x::xs,i+1,hz=>by
  simp only [List.flatMap_cons,List.drop_succ_cons];have hx:=hz x (by simp);rw [Nat.succ_mul,Nat.add_comm,List.drop_append,hx,List.drop_of_length_le (by omega),List.nil_append,Nat.add_sub_cancel_left];exact Qe6 i (fun y hy=>hz y (by simp [hy]))
theorem Qen {esz:Nat}: ∀{els:List PV} (i:Nat),(∀e∈els,e.cells.length=esz)→(els.flatMap PV.cells).take (i*esz)=(els.take i).flatMap PV.cells
 |_,0,_=>by simp
 | [],i+1,_=>by simp
 |x::xs,i+1,hz=>by
  simp only [List.flatMap_cons,List.take_succ_cons];have hx:=hz x (by simp);rw [Nat.succ_mul,Nat.add_comm,List.take_append,hx,List.take_of_length_le (by omega),Nat.add_sub_cancel_left,Qen i (fun y hy=>hz y (by simp [hy]))]
theorem Qyq {esz:Nat}: ∀{els:List PV} {i:Nat} {e:PV},(∀e∈els,e.cells.length=esz)→i<els.length→e.cells.length=esz→
  (els.set i e).flatMap PV.cells=(els.flatMap PV.cells).take (i*esz)++e.cells++(els.flatMap PV.cells).drop (i*esz+esz)
 | [],i,e,_,h,_=>by simp at h
 |x::xs,0,e,hz,h,he=>by
  simp only [List.set_cons_zero,List.flatMap_cons,Nat.zero_mul,List.take_zero,List.nil_append,Nat.zero_add];rw [List.drop_append,hz x (by simp),List.drop_of_length_le (by rw [hz x (by simp)];omega)];simp
 |x::xs,i+1,e,hz,h,he=>by
  simp only [List.set_cons_succ,List.flatMap_cons];have hx:=hz x (by simp);rw [Qyq (fun y hy=>hz y (by simp [hy])) (by simpa using h) he];have t1:x.cells.take ((i+1)*esz)=x.cells:=List.take_of_length_le (by rw [hx,Nat.succ_mul];omega);have t2:x.cells.drop ((i+1)*esz+esz)=[]:=List.drop_of_length_le (by rw [hx,Nat.succ_mul];omega);rw [List.take_append,List.drop_append,hx,t1,t2];have e1:(i+1)*esz-esz=i*esz:=by rw [Nat.succ_mul];omega
  have e2:(i+1)*esz+esz-esz=i*esz+esz:=by rw [Nat.succ_mul];omega
  rw [e1,e2];simp
def PV.one (e:PV) (vs:List PV):PV:=match vs with| [v]=>v|_=>e
def PV.putCells (e:PV) (off:Nat) (vs:List PV):PV:=
 match e with
 | .agg cs=> .agg (cs.take off++vs++cs.drop (off+vs.length))
 |_=>PV.one e vs
theorem PV.cells_ok {v:PV} (h:v.okCell=true):v.cells=[v]:=by cases v<;>simp_all [PV.cells,PV.okCell]
theorem PV.putCells_cells {e:PV} {off:Nat} {vs:List PV} (h:off+vs.length≤e.cells.length) (ho:vs.all PV.okCell=true):
  (e.putCells off vs).cells=e.cells.take off++vs++e.cells.drop (off+vs.length):=by
 have key: ∀e:PV,e.cells=[e]→e.putCells off vs=PV.one e vs→off+vs.length≤1→
   (e.putCells off vs).cells=e.cells.take off++vs++e.cells.drop (off+vs.length):=by
  intro e he hp hl;rw [hp,he]
  match vs,ho,hl with
  | [],_,hl=>simp [he,PV.one]
  | [v],ho,hl=>
   simp at ho hl;subst hl;simp [PV.cells_ok ho,PV.one]
  |_::_::_,_,hl=>simp at hl;omega
 cases e with
 |agg cs=>rfl
 |_=>exact key _ rfl rfl (by simpa [PV.cells]using h)
theorem Qcl (w:World) (g k:Nat) (cs:Array Value) (h:k≠g):(w.setRow g cs).heap[k]? =w.heap[k]? :=by
 have: ¬g=k:=fun e=>h e.symm;simp [World.setRow,Array.getElem?_modify,this]
theorem Lent.setRow {X:Nat→Prop} {w:World} {g:Nat} (hg:X g) (B:Nat) (cs:Array Value):Lent X B w (w.setRow g cs):=
 ⟨rfl,rfl,rfl,by rw [size_setRow];exact Nat.le_refl _,fun k hk hx=>Qcl w g k cs fun e=>hx (e▸hg)⟩
theorem Keeps.setRow {im:Im} {w:World} {g:Nat} {cur cur':Array Value} {e:TypeId} (hg:w.heap[g]? =some (Obj.cells cur e (0,0))) (hs:cur'.size=cur.size)
  (hj: ∀j,im g j→cur'[j]? =cur[j]?):Keeps im w (w.setRow g cur'):=by
 have hg':(w.setRow g cur').heap[g]? =some (Obj.cells cur' e (0,0)):=setRow_heap w g cur _ e _ hg;refine⟨?_,?_,?_⟩
 ·intro g' j hi;by_cases x:g'=g
  ·subst x;rw [cell_of_row _ _ _ _ _ _ hg',cell_of_row _ _ _ _ _ _ hg];exact hj j hi
  ·exact World.cell?_of_block (w:=w) (a:=⟨g',j,none⟩) (Qcl w g g' cur' x)
 ·intro g' c t h;by_cases x:g'=g
  ·subst x;rw [hg]at h;cases h;exact⟨cur',hg',hs⟩
  ·exact⟨c,by rw [Qcl w g g' cur' x];exact h,rfl⟩
 ·intro g' o h hn;by_cases x:g'=g
  ·subst x;rw [hg]at h;cases h;cases hn
  ·rw [Qcl w g g' cur' x];exact h
theorem Qe7 {α:Type} (cur vs:List α) (p j:Nat) (hp:p+vs.length≤cur.length) (h:j<p∨p+vs.length≤j):
  (cur.take p++vs++cur.drop (p+vs.length))[j]? =cur[j]? :=by
 rcases h with h|h
 ·rw [List.append_assoc,List.getElem?_append_left (by simp;omega),List.getElem?_take_of_lt h]
 ·rw [List.getElem?_append_right (by simp;omega),List.getElem?_drop];congr 1;simp;omega
theorem Rel'.write {C:Ctx} {st:St} {a:Act} {w:World} {ρ:Rho} {im:Im} (h:Rel' C st a w ρ im) {b g i off:Nat} {B:Box} {e:PV} {vs:List PV} {us':List Value}
  (hρ:ρ b=some (some g)) (hB:st.box b=some B) (hl:B.live=true) (hf:B.fro≤i) (he:B.els[i]? =some e) (hlen:off+vs.length≤e.cells.length)
  (hok:vs.all PV.okCell=true) (hr:LRL w im ρ vs us') (ha:B.arr=true→RepL w im vs us'):
  ∃(cur:Array Value),w.heap[g]? =some (Obj.cells cur B.ety (0,0))∧i*B.esz+off+us'.length≤cur.size∧
   Rel' C (st.setBox b {B with els:=B.els.set i (e.putCells off vs)}) a
    (w.setRow g (cur.toList.take (i*B.esz+off)++us'++cur.toList.drop (i*B.esz+off+us'.length)).toArray) ρ im:=by
 obtain⟨h1,h2,h3,h4,⟨hmn,cur,us,rest,h5,h6,h7,h8,h9,h10,h11⟩|hm⟩:=h.box b _ B hρ hB
 case inr=>rw [hm.1]at he;simp at he
 have hi:i<B.els.length:=(List.getElem?_eq_some_iff.1 he).1;have hez:e.cells.length=B.esz:=h4 e (List.mem_of_getElem? he);have hul:us.length=B.els.length*B.esz:=by rw [←h7.length,Qau h4]
 have hvl:vs.length=us'.length:=hr.length;have hmul:i*B.esz+B.esz≤B.els.length*B.esz:=by rw [←Nat.succ_mul];exact Nat.mul_le_mul_right _ hi
 have hpu:i*B.esz+off+us'.length≤us.length:=by omega
 have hcs:cur.size=us.length+rest.length:=by rw [←Array.length_toList,h6];simp
 have hfi:B.fro*B.esz≤i*B.esz:=Nat.mul_le_mul_right _ hf;refine⟨cur,h5,by omega,?_⟩;have hsz:(cur.toList.take (i*B.esz+off)++us'++cur.toList.drop (i*B.esz+off+us'.length)).toArray.size=cur.size:=by
  simp;omega
 have hni: ∀j,B.fro*B.esz≤j→ ¬im g j:=h11 hl;have hk:Keeps im w (w.setRow g (cur.toList.take (i*B.esz+off)++us'++cur.toList.drop (i*B.esz+off+us'.length)).toArray):=by
  refine Keeps.setRow h5 hsz ?_;intro j hj;have:j<B.fro*B.esz:=by
   rcases Nat.lt_or_ge j (B.fro*B.esz)with x|x
   ·exact x
   ·exact absurd hj (hni j x)
  rw [List.getElem?_toArray,Qe7 _ _ _ _ (by simp;omega) (.inl (by omega)),Array.getElem?_toList]
 have hg':=setRow_heap w g cur (cur.toList.take (i*B.esz+off)++us'++cur.toList.drop (i*B.esz+off+us'.length)).toArray B.ety _ h5;have hcells:(e.putCells off vs).cells=e.cells.take off++vs++e.cells.drop (off+vs.length):=PV.putCells_cells hlen hok;have hcl:(e.putCells off vs).cells.length=B.esz:=by rw [hcells];simp;omega
 have hflat:(B.els.set i (e.putCells off vs)).flatMap PV.cells=(B.els.flatMap PV.cells).take (i*B.esz+off)++vs++(B.els.flatMap PV.cells).drop (i*B.esz+off+vs.length):=by
  rw [Qyq h4 hi hcl,hcells];have hF:(B.els.flatMap PV.cells).length=B.els.length*B.esz:=Qau h4;have hd: ∀j,j<B.esz→(B.els.flatMap PV.cells)[i*B.esz+j]? =e.cells[j]? :=fun j hj=>Qlr h4 he hj;generalize B.els.flatMap PV.cells=F at*;have t1:F.take (i*B.esz+off)=F.take (i*B.esz)++e.cells.take off:=by
   rw [List.take_add];congr 1;apply List.ext_getElem?;intro j;simp only [List.getElem?_take,List.getElem?_drop];split
   ·exact hd j (by omega)
   ·rfl
  have t2:F.drop (i*B.esz+off+vs.length)=e.cells.drop (off+vs.length)++F.drop (i*B.esz+B.esz):=by
   apply List.ext_getElem?;intro j;simp only [List.getElem?_drop];by_cases x:j<B.esz-(off+vs.length)
   ·rw [List.getElem?_append_left (by simp;omega),List.getElem?_drop,←hd _ (by omega)];congr 1;omega
   ·rw [List.getElem?_append_right (by simp;omega),List.getElem?_drop];congr 1;simp;omega
  rw [t1,t2];simp
 have hb':Lent (Own ρ) w.heap.size w (w.setRow g (cur.toList.take (i*B.esz+off)++us'++cur.toList.drop (i*B.esz+off+us'.length)).toArray):=Lent.setRow ⟨b,hρ⟩ _ _;have hurest:(cur.toList.take (i*B.esz+off)++us'++cur.toList.drop (i*B.esz+off+us'.length))=
   (us.take (i*B.esz+off)++us'++us.drop (i*B.esz+off+us'.length))++rest:=by
  rw [h6,List.take_append_of_le_length (by omega),List.drop_append_of_le_length (by omega)];simp
 refine⟨h.step ⟨hb',hk,fun _ x=> .inl x,fun _ _ x=>x,fun _ _ x=> .inl x⟩ h.root.rho0,h.nt,Qhe hk h.dfr,?_,?_,?_,?_,?_⟩
 ·intro g' j x;rw [hk.cell g' j x];exact h.imc g' j x
 ·exact fun t v hv=>(h.var t v hv).mono hk (fun _ _ x=>x) (fun _ _ x=>x)
 ·intro b';by_cases x:b'=b
  ·subst x;simp [St.setBox,Qao,hρ]
  ·simp [St.setBox,Qal _ _ _ _ x,h.rho b']
 ·intro b' x B' hx hB';by_cases eb:b'=b
  ·subst eb;simp only [St.setBox,Qao,Option.some.injEq]at hB';rw [hρ]at hx;cases hx;subst hB';refine⟨h1,by simpa using h2,h3,?_,.inl ⟨hmn,_,us.take (i*B.esz+off)++us'++us.drop (i*B.esz+off+us'.length),rest,hg',?_,?_,?_,?_,?_,?_⟩⟩
   ·intro e' he';rcases List.mem_or_eq_of_mem_set he' with x|x
    ·exact h4 e' x
    ·rw [x];exact hcl
   ·simpa using hurest
   ·simp only [hflat];rw [hvl];exact((((h7.take _).append hr).append (h7.drop _)).mono hk (fun _ _ x=>x) (fun _ _ x=>x))
   ·intro ha';simp only [hflat];rw [hvl];exact(((((h8 ha').take _).append (ha ha')).append ((h8 ha').drop _)).mono hk.cell (fun _ _ x=>x))
   ·intro u hu;simp only [List.mem_append]at hu;rcases hu with(hu|hu)|hu
    ·exact h9 u (List.mem_of_mem_take hu)
    ·exact hr.oneCells hok u hu
    ·exact h9 u (List.mem_of_mem_drop hu)
   ·intro j hj hh;refine h10 j ?_ hh;simp at hj;omega
   ·exact fun _ j hj=>hni j hj
  ·simp only [St.setBox,Qal _ _ _ _ eb]at hB';refine(h.box b' x B' hx hB').mono hk (fun _ _ x=>x) (fun _ _ _ _ x=>x) (fun _ _ x=>x) ?_;intro hl' g' e';subst e';have:g'≠g:=fun e=>eb (h.inj b' b g' B' B hx (by rw [e];exact hρ) hB' hB hl' hl);exact Qcl w g g' _ this
 ·intro b1 b2 g1 B1 B2 p1 p2 e1 e2 l1 l2;have f: ∀b0 B0,(st.setBox b {B with els:=B.els.set i (e.putCells off vs)}).box b0=some B0→B0.live=true→ ∃B3,st.box b0=some B3∧B3.live=true:=by
   intro b0 B0 e0 l0;by_cases x:b0=b
   ·subst x;exact⟨B,hB,hl⟩
   ·simp only [St.setBox,Qal _ _ _ _ x]at e0;exact⟨B0,e0,l0⟩
  obtain⟨B3,e3,l3⟩:=f b1 B1 e1 l1;obtain⟨B4,e4,l4⟩:=f b2 B2 e2 l2;exact h.inj b1 b2 g1 B3 B4 p1 p2 e3 e4 l3 l4
def Qsz (im:Im) (x:Option Nat) (n:Nat):Im:=fun g j=>im g j∨(x=some g∧j<n)
theorem Rel'.hold {C:Ctx} {st:St} {a:Act} {w:World} {ρ:Rho} {im:Im} (h:Rel' C st a w ρ im) {b:Nat} {x:Option Nat} {B:Box} {n:Nat}
  (hρ:ρ b=some x) (hB:st.box b=some B) (hn:n≤B.els.length) (k:Bool) (hk0:k=true):
  Rel' C (st.setBox b {B with fro:=max B.fro n,live:=B.live&&k}) a w ρ (Qsz im x (n*B.esz)):=by
 have hk:k=true∨B.els.length≤n:= .inl hk0;have hbox:=h.box b x B hρ hB;have himp: ∀g j,im g j→Qsz im x (n*B.esz) g j:=fun _ _ y=> .inl y;have hcell: ∀g j,Qsz im x (n*B.esz) g j→im g j∨(x=some g∧C.own g∧ ∃u,w.cell? ⟨g,j,none⟩=some u):=by
  rintro g j (y|⟨rfl,y⟩)
  ·exact .inl y
  ·obtain⟨h1,h2,h3,h4,⟨hmn,cur,us,rest,h5,h6,h7,_⟩|hm⟩:=hbox
   case inr=>rw [hm.1]at hn;simp at hn;subst hn;omega
   have hul:us.length=B.els.length*B.esz:=by rw [←h7.length,Qau h4]
   have:n*B.esz≤B.els.length*B.esz:=Nat.mul_le_mul_right _ hn;have hcs:cur.size=us.length+rest.length:=by rw [←Array.length_toList,h6];simp
   refine .inr ⟨rfl,h1,cur[j]'(by omega),?_⟩;rw [cell_of_row _ _ _ _ _ _ h5];simp
 refine⟨h.step ⟨.refl _ _ _,Keeps.refl _ _,fun _ y=> .inl y,himp,?_⟩ h.root.rho0,h.nt,h.dfr,?_,?_,?_,?_,?_⟩
 ·rintro g j (y|⟨y,_⟩)
  ·exact .inl y
  ·exact .inr (.inl ⟨b,by rw [hρ,y]⟩)
 ·intro g j y;rcases hcell g j y with z|z
  ·exact h.imc g j z
  ·exact z.2.2
 ·exact fun t v hv=>(h.var t v hv).mono (Keeps.refl _ _) himp (fun _ _ x=>x)
 ·intro b';by_cases e:b'=b
  ·subst e;simp [St.setBox,Qao,hρ]
  ·simp [St.setBox,Qal _ _ _ _ e,h.rho b']
 ·intro b' x' B' hx hB';by_cases eb:b'=b
  ·subst eb;simp only [St.setBox,Qao,Option.some.injEq]at hB';rw [hρ]at hx;cases hx;subst hB';cases x with
   |none=>
    obtain⟨z1,z2,z3,z4⟩:=hbox;have:n=0:=by rw [z1]at hn;simpa using hn
    exact⟨z1,z2,by simp [z3,this],z4⟩
   |some g=>
    obtain⟨h1,h2,h3,h4,⟨hmn,cur,us,rest,h5,h6,h7,h8,h9,h10,h11⟩|hm⟩:=hbox
    case inr=>
     have h0:=hn;rw [hm.1]at h0;simp at h0;subst h0;refine⟨h1,by simpa using h2,h3,h4,.inr ?_⟩;obtain⟨m1,m2,m3,m4⟩:=hm.mono (fun _ _ _=>rfl) himp rfl;exact⟨m1,m2,by simp only [m3,Bool.true_and];exact hk0,m4⟩
    have hul:us.length=B.els.length*B.esz:=by rw [←h7.length,Qau h4]
    have hmx:max B.fro n*B.esz=max (B.fro*B.esz) (n*B.esz):=by
     rcases Nat.le_total B.fro n with y|y
     ·have:=Nat.mul_le_mul_right B.esz y;rw [Nat.max_eq_right y,Nat.max_eq_right this]
     ·have:=Nat.mul_le_mul_right B.esz y;rw [Nat.max_eq_left y,Nat.max_eq_left this]
    refine⟨h1,by simp;omega,h3,h4,.inl ⟨hmn,cur,us,rest,h5,h6,h7.mono (Keeps.refl _ _) himp (fun _ _ x=>x),fun y=>(h8 y).mono (fun _ _ _=>rfl) himp,h9,?_,?_⟩⟩
    ·intro j hj hh;simp only [Bool.and_eq_false_iff]at hh;by_cases y:j<n*B.esz
     ·exact .inr ⟨rfl,y⟩
     ·refine .inl (h10 j hj ?_);rcases hh with hh|hh|hh
      ·left;rw [hmx]at hh;omega
      ·exact .inr hh
      ·rcases hk with hk|hk
       ·rw [hk]at hh;cases hh
       ·have:B.els.length*B.esz≤n*B.esz:=Nat.mul_le_mul_right _ hk;omega
    ·intro hl j hj hi;simp only [Bool.and_eq_true]at hl;simp only [hmx]at hj;rcases hi with hi|⟨_,hi⟩
     ·exact h11 hl.1 j (by omega) hi
     ·omega
  ·simp only [St.setBox,Qal _ _ _ _ eb]at hB';refine(h.box b' x' B' hx hB').mono (Keeps.refl _ _) himp ?_ (fun _ _ x=>x) (fun _ _ _=>rfl);intro hl g j hg hi;rcases hi with hi|⟨hxg,hj⟩
   ·exact hi
   ·subst hg;subst hxg;have hnl:B.live=false:=by
     cases hBl:B.live with
     |false=>rfl
     |true=>exact absurd (h.inj b' b g B' B hx hρ hB' hB hl hBl) eb
    obtain⟨h1,h2,h3,h4,⟨hmn,cur,us,rest,h5,h6,h7,h8,h9,h10,h11⟩|hm⟩:=hbox
    case inr=>rw [hm.2.2.1]at hnl;cases hnl
    have hul:us.length=B.els.length*B.esz:=by rw [←h7.length,Qau h4]
    have:n*B.esz≤B.els.length*B.esz:=Nat.mul_le_mul_right _ hn;exact h10 j (by omega) (.inr hnl)
 ·intro b1 b2 g1 B1 B2 p1 p2 e1 e2 l1 l2;have f: ∀b0 B0,(st.setBox b {B with fro:=max B.fro n,live:=B.live&&k}).box b0=some B0→B0.live=true→ ∃B3,st.box b0=some B3∧B3.live=true:=by
   intro b0 B0 e0 l0;by_cases y:b0=b
   ·subst y;simp only [St.setBox,Qao,Option.some.injEq]at e0;subst e0;simp only [Bool.and_eq_true]at l0;exact⟨B,hB,l0.1⟩
   ·simp only [St.setBox,Qal _ _ _ _ y]at e0;exact⟨B0,e0,l0⟩
  obtain⟨B3,e3,l3⟩:=f b1 B1 e1 l1;obtain⟨B4,e4,l4⟩:=f b2 B2 e2 l2;exact h.inj b1 b2 g1 B3 B4 p1 p2 e3 e4 l3 l4
theorem Rel'.seen {C:Ctx} {st:St} {a:Act} {w:World} {ρ:Rho} {im:Im} (h:Rel' C st a w ρ im) {b g i:Nat} {B:Box} {e:PV} (hρ:ρ b=some (some g))
  (hB:st.box b=some B) (he:B.els[i]? =some e):
  e.cells.length=B.esz∧ ∃us,LRL w im ρ e.cells us∧(B.arr=true→RepL w im e.cells us)∧(∀j,j<B.esz→w.cell? ⟨g,i*B.esz+j,none⟩=us[j]?):=by
 obtain⟨h1,h2,h3,h4,⟨hmn,cur,us,rest,h5,h6,h7,h8,h9,h10,h11⟩|hm⟩:=h.box b _ B hρ hB
 case inr=>rw [hm.1]at he;simp at he
 have hi:i<B.els.length:=(List.getElem?_eq_some_iff.1 he).1;have hez:=h4 e (List.mem_of_getElem? he);have hul:us.length=B.els.length*B.esz:=by rw [←h7.length,Qau h4]
 have hmul:i*B.esz+B.esz≤B.els.length*B.esz:=by rw [←Nat.succ_mul];exact Nat.mul_le_mul_right _ hi
 have hcut:((B.els.flatMap PV.cells).drop (i*B.esz)).take B.esz=e.cells:=by
  apply List.ext_getElem?;intro j;simp only [List.getElem?_take,List.getElem?_drop];split
  ·rename_i hj;exact Qlr h4 he hj
  ·rw [List.getElem?_eq_none];omega
 refine⟨hez,(us.drop (i*B.esz)).take B.esz,?_,?_,?_⟩
 ·have:=(h7.drop (i*B.esz)).take B.esz;rwa [hcut]at this
 ·intro ha;have:=((h8 ha).drop (i*B.esz)).take B.esz;rwa [hcut]at this
 ·intro j hj;rw [cell_of_row _ _ _ _ _ _ h5,←Array.getElem?_toList,h6,List.getElem?_append_left (by omega),List.getElem?_take_of_lt hj,List.getElem?_drop]
end Go.Vl
