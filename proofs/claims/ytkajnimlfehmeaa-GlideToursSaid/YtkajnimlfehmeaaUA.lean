/-
  Values without memory, and how they lie in a world.
-/
import Derived.Below
import Derived.Laws.AppendOwn
import Derived.Laws.MakeOwn
set_option linter.unusedSimpArgs false
set_option linter.unusedVariables false
namespace Go.Vl

inductive PV where
  | bool (b : Bool)
  | int (k : IntKind) (n : Int)
  | str (s : ByteArray)
  | nilS
  | slc (es : List PV)
  | agg (cs : List PV)
  | tup (vs : List PV)
  | fn (f : FuncId) (first cap : List PV)
  | nilF
  | rp (cs : List PV)
  | bp (b esz i off : Nat)
  | bs (b esz off len : Nat)
  | undef
  | yld (l stop : Nat)

def PV.cells : PV → List PV
  | .agg cs => cs
  | v => [v]

abbrev Im := Nat → Nat → Prop

mutual
inductive Rep (w : World) (im : Im) : PV → Value → Prop
  | bool (b : Bool) : Rep w im (.bool b) (.bool b)
  | int (k : IntKind) (n : Int) : Rep w im (.int k n) (.int k n)
  | str (s : ByteArray) : Rep w im (.str s) (.string s)
  | nilS : Rep w im .nilS (.slice none 0 0)
  | slcNil (c : Nat) (hm : c ≤ maxLen) : Rep w im (.slc []) (.slice none 0 c)
  | slcE (p : Addr) (cap : Nat) (hm : cap ≤ maxLen) : Rep w im (.slc []) (.slice (some p) 0 cap)
  | slc (es : List PV) (g off len cap sz : Nat) (vs : List Value) (hn : es.length = len) (hm : cap ≤ maxLen) (hz : ∀ e ∈ es, e.cells.length = sz)
      (hi : ∀ j, j < vs.length → im g (off + j)) (hc : ∀ j, j < vs.length → w.cell? ⟨g, off + j, none⟩ = vs[j]?)
      (hr : RepL w im (es.flatMap PV.cells) vs) (hcap : len ≤ cap) : Rep w im (.slc es) (.slice (some ⟨g, off, none⟩) len cap)
  | agg (cs : List PV) (vs : List Value) (h : RepL w im cs vs) : Rep w im (.agg cs) (.agg vs.toArray)
  | tup (cs : List PV) (vs : List Value) (h : RepL w im cs vs) : Rep w im (.tup cs) (.tuple vs.toArray)
  | fn (f : FuncId) (first cap : List PV) (a b : List Value) (ha : RepL w im first a) (hb : RepL w im cap b) :
      Rep w im (.fn f first cap) (.func (.func f) a.toArray b.toArray)
  | nilF : Rep w im .nilF .nilFunc
  | yld (l stop : Nat) : Rep w im (.yld l stop) (.func (.yield l) #[] #[])
  | rp (cs : List PV) (g off : Nat) (vs : List Value) (hi : ∀ j, j < vs.length → im g (off + j))
      (hc : ∀ j, j < vs.length → w.cell? ⟨g, off + j, none⟩ = vs[j]?) (hr : RepL w im cs vs) : Rep w im (.rp cs) (.pointer (some ⟨g, off, none⟩))
inductive RepL (w : World) (im : Im) : List PV → List Value → Prop
  | nil : RepL w im [] []
  | cons (v : PV) (u : Value) (vs : List PV) (us : List Value) (h : Rep w im v u) (t : RepL w im vs us) : RepL w im (v :: vs) (u :: us)
end

/-- Where a box lies: no box, a nil slice, or a block. -/
abbrev Rho := Nat → Option (Option Nat)

mutual
inductive LR (w : World) (im : Im) (ρ : Rho) : PV → Value → Prop
  | ext (v : PV) (u : Value) (h : Rep w im v u) : LR w im ρ v u
  | undef (u : Value) : LR w im ρ .undef u
  | bp (b esz i off g o : Nat) (h : ρ b = some (some g)) (ho : o = i * esz + off) : LR w im ρ (.bp b esz i off) (.pointer (some ⟨g, o, none⟩))
  | bsNil (b esz : Nat) (x : Option (Nat × Nat)) (h : ρ b = some none) : LR w im ρ (.bs b esz 0 0) (.slice (x.map fun p => ⟨p.1, p.2, none⟩) 0 0)
  | bs (b esz off len g o cap : Nat) (cur : Array Value) (e : TypeId) (h : ρ b = some (some g)) (ho : w.heap[g]? = some (.cells cur e (0, 0)))
      (hoff : o = off * esz) (hc : o + cap * esz ≤ cur.size) (hl : len ≤ cap) (hm : cap ≤ maxLen) : LR w im ρ (.bs b esz off len) (.slice (some ⟨g, o, none⟩) len cap)
  | agg (cs : List PV) (vs : List Value) (h : LRL w im ρ cs vs) : LR w im ρ (.agg cs) (.agg vs.toArray)
  | tup (cs : List PV) (vs : List Value) (h : LRL w im ρ cs vs) : LR w im ρ (.tup cs) (.tuple vs.toArray)
  | fn (f : FuncId) (first cap : List PV) (a b : List Value) (ha : LRL w im ρ first a) (hb : LRL w im ρ cap b) :
      LR w im ρ (.fn f first cap) (.func (.func f) a.toArray b.toArray)
inductive LRL (w : World) (im : Im) (ρ : Rho) : List PV → List Value → Prop
  | nil : LRL w im ρ [] []
  | cons (v : PV) (u : Value) (vs : List PV) (us : List Value) (h : LR w im ρ v u) (t : LRL w im ρ vs us) : LRL w im ρ (v :: vs) (u :: us)
end

/-- A block that holds no cells. -/
def noCells : Obj → Bool
  | .cells _ _ _ => false
  | _ => true

/-- What is not to change stays. -/
structure Keeps (im : Im) (w w' : World) : Prop where
  cell : ∀ g j, im g j → w'.cell? ⟨g, j, none⟩ = w.cell? ⟨g, j, none⟩
  obj : ∀ (g : Nat) (cur : Array Value) (e : TypeId), w.heap[g]? = some (Obj.cells cur e (0, 0)) → ∃ cur' : Array Value, w'.heap[g]? = some (Obj.cells cur' e (0, 0)) ∧ cur'.size = cur.size
  oth : ∀ (g : Nat) (o : Obj), w.heap[g]? = some o → noCells o = true → w'.heap[g]? = some o

theorem Keeps.refl (im : Im) (w : World) : Keeps im w w := ⟨fun _ _ _ => rfl, fun _ cur _ h => ⟨cur, h, rfl⟩, fun _ _ h _ => h⟩

theorem Keeps.trans {im im' : Im} {w w' w'' : World} (h : Keeps im w w') (k : Keeps im' w' w'') (hi : ∀ g j, im g j → im' g j) : Keeps im w w'' where
  cell := fun g j x => (k.cell g j (hi g j x)).trans (h.cell g j x)
  obj := fun g cur e x => let ⟨c1, h1, s1⟩ := h.obj g cur e x; let ⟨c2, h2, s2⟩ := k.obj g c1 e h1; ⟨c2, h2, s2.trans s1⟩
  oth := fun g o x c => k.oth g o (h.oth g o x c) c

mutual
theorem Rep.mono {w w' : World} {im im' : Im} (hk : ∀ g j, im g j → w'.cell? ⟨g, j, none⟩ = w.cell? ⟨g, j, none⟩) (hi : ∀ g j, im g j → im' g j) :
    ∀ {v : PV} {u : Value}, Rep w im v u → Rep w' im' v u
  | _, _, .bool b => .bool b
  | _, _, .int k n => .int k n
  | _, _, .str s => .str s
  | _, _, .nilS => .nilS
  | _, _, .slcNil c hm => .slcNil c hm
  | _, _, .slcE p cap hm => .slcE p cap hm
  | _, _, .slc es g off len cap sz vs hn hm hz h1 h2 hr hcap =>
    .slc es g off len cap sz vs hn hm hz (fun j hj => hi _ _ (h1 j hj)) (fun j hj => (hk _ _ (h1 j hj)).trans (h2 j hj)) (RepL.mono hk hi hr) hcap
  | _, _, .agg cs vs h => .agg cs vs (RepL.mono hk hi h)
  | _, _, .tup cs vs h => .tup cs vs (RepL.mono hk hi h)
  | _, _, .fn f a b c d h1 h2 => .fn f a b c d (RepL.mono hk hi h1) (RepL.mono hk hi h2)
  | _, _, .nilF => .nilF
  | _, _, .yld l s => .yld l s
  | _, _, .rp cs g off vs h1 h2 hr => .rp cs g off vs (fun j hj => hi _ _ (h1 j hj)) (fun j hj => (hk _ _ (h1 j hj)).trans (h2 j hj)) (RepL.mono hk hi hr)
theorem RepL.mono {w w' : World} {im im' : Im} (hk : ∀ g j, im g j → w'.cell? ⟨g, j, none⟩ = w.cell? ⟨g, j, none⟩) (hi : ∀ g j, im g j → im' g j) :
    ∀ {v : List PV} {u : List Value}, RepL w im v u → RepL w' im' v u
  | _, _, .nil => .nil
  | _, _, .cons v u vs us h t => .cons v u vs us (Rep.mono hk hi h) (RepL.mono hk hi t)
end

mutual
theorem LR.mono0 {w w' : World} {im im' : Im} {ρ ρ' : Rho} (hc0 : ∀ g j, im g j → w'.cell? ⟨g, j, none⟩ = w.cell? ⟨g, j, none⟩)
    (hob : ∀ (g : Nat) (cur : Array Value) (e : TypeId), w.heap[g]? = some (Obj.cells cur e (0, 0)) → ∃ cur' : Array Value, w'.heap[g]? = some (Obj.cells cur' e (0, 0)) ∧ cur'.size = cur.size)
    (hi : ∀ g j, im g j → im' g j) (hρ : ∀ b x, ρ b = some x → ρ' b = some x) :
    ∀ {v : PV} {u : Value}, LR w im ρ v u → LR w' im' ρ' v u
  | _, _, .ext v u h => .ext v u (h.mono hc0 hi)
  | _, _, .undef u => .undef u
  | _, _, .bp b esz i off g o h ho => .bp b esz i off g o (hρ _ _ h) ho
  | _, _, .bsNil b esz x h => .bsNil b esz x (hρ _ _ h)
  | _, _, .bs b esz off len g o cap cur e h ho hoff hc hl hm =>
    let ⟨cur', ho', hs⟩ := hob g cur e ho
    .bs b esz off len g o cap cur' e (hρ _ _ h) ho' hoff (by omega) hl hm
  | _, _, .agg cs vs h => .agg cs vs (LRL.mono0 hc0 hob hi hρ h)
  | _, _, .tup cs vs h => .tup cs vs (LRL.mono0 hc0 hob hi hρ h)
  | _, _, .fn f a b c d h1 h2 => .fn f a b c d (LRL.mono0 hc0 hob hi hρ h1) (LRL.mono0 hc0 hob hi hρ h2)
theorem LRL.mono0 {w w' : World} {im im' : Im} {ρ ρ' : Rho} (hc0 : ∀ g j, im g j → w'.cell? ⟨g, j, none⟩ = w.cell? ⟨g, j, none⟩)
    (hob : ∀ (g : Nat) (cur : Array Value) (e : TypeId), w.heap[g]? = some (Obj.cells cur e (0, 0)) → ∃ cur' : Array Value, w'.heap[g]? = some (Obj.cells cur' e (0, 0)) ∧ cur'.size = cur.size)
    (hi : ∀ g j, im g j → im' g j) (hρ : ∀ b x, ρ b = some x → ρ' b = some x) :
    ∀ {v : List PV} {u : List Value}, LRL w im ρ v u → LRL w' im' ρ' v u
  | _, _, .nil => .nil
  | _, _, .cons v u vs us h t => .cons v u vs us (LR.mono0 hc0 hob hi hρ h) (LRL.mono0 hc0 hob hi hρ t)
end
theorem LR.mono {w w' : World} {im im' : Im} {ρ ρ' : Rho} (hk : Keeps im w w') (hi : ∀ g j, im g j → im' g j) (hρ : ∀ b x, ρ b = some x → ρ' b = some x)
    {v : PV} {u : Value} (h : LR w im ρ v u) : LR w' im' ρ' v u := LR.mono0 hk.cell hk.obj hi hρ h
theorem LRL.mono {w w' : World} {im im' : Im} {ρ ρ' : Rho} (hk : Keeps im w w') (hi : ∀ g j, im g j → im' g j) (hρ : ∀ b x, ρ b = some x → ρ' b = some x)
    {v : List PV} {u : List Value} (h : LRL w im ρ v u) : LRL w' im' ρ' v u := LRL.mono0 hk.cell hk.obj hi hρ h

theorem RepL.length {w : World} {im : Im} : ∀ {vs : List PV} {us : List Value}, RepL w im vs us → vs.length = us.length
  | _, _, .nil => rfl
  | _, _, .cons _ _ _ _ _ t => by simp [t.length]
theorem LRL.length {w : World} {im : Im} {ρ : Rho} : ∀ {vs : List PV} {us : List Value}, LRL w im ρ vs us → vs.length = us.length
  | _, _, .nil => rfl
  | _, _, .cons _ _ _ _ _ t => by simp [t.length]
theorem RepL.append {w : World} {im : Im} {as bs : List PV} {us vs : List Value} (h : RepL w im as us) (k : RepL w im bs vs) : RepL w im (as ++ bs) (us ++ vs) := by
  induction as generalizing us with
  | nil => cases h; exact k
  | cons a as ih => cases h with | cons _ u _ us h t => exact .cons _ _ _ _ h (ih t)
theorem LRL.append {w : World} {im : Im} {ρ : Rho} {as bs : List PV} {us vs : List Value} (h : LRL w im ρ as us) (k : LRL w im ρ bs vs) : LRL w im ρ (as ++ bs) (us ++ vs) := by
  induction as generalizing us with
  | nil => cases h; exact k
  | cons a as ih => cases h with | cons _ u _ us h t => exact .cons _ _ _ _ h (ih t)
theorem RepL.drop {w : World} {im : Im} : ∀ (n : Nat) {as : List PV} {us : List Value}, RepL w im as us → RepL w im (as.drop n) (us.drop n)
  | 0, _, _, h => h
  | n + 1, _, _, .nil => by simpa using RepL.nil
  | n + 1, _, _, .cons _ _ _ _ _ t => by simpa using t.drop n
theorem RepL.take {w : World} {im : Im} : ∀ (n : Nat) {as : List PV} {us : List Value}, RepL w im as us → RepL w im (as.take n) (us.take n)
  | 0, _, _, _ => by simpa using RepL.nil
  | n + 1, _, _, .nil => by simpa using RepL.nil
  | n + 1, _, _, .cons v u _ _ h t => by simpa using RepL.cons v u _ _ h (t.take n)
theorem LRL.drop {w : World} {im : Im} {ρ : Rho} : ∀ (n : Nat) {as : List PV} {us : List Value}, LRL w im ρ as us → LRL w im ρ (as.drop n) (us.drop n)
  | 0, _, _, h => h
  | n + 1, _, _, .nil => by simpa using LRL.nil
  | n + 1, _, _, .cons _ _ _ _ _ t => by simpa using t.drop n
theorem LRL.take {w : World} {im : Im} {ρ : Rho} : ∀ (n : Nat) {as : List PV} {us : List Value}, LRL w im ρ as us → LRL w im ρ (as.take n) (us.take n)
  | 0, _, _, _ => by simpa using LRL.nil
  | n + 1, _, _, .nil => by simpa using LRL.nil
  | n + 1, _, _, .cons v u _ _ h t => by simpa using LRL.cons v u _ _ h (t.take n)
theorem RepL.get {w : World} {im : Im} {as : List PV} {us : List Value} (h : RepL w im as us) (n : Nat) (v : PV) (hv : as[n]? = some v) : ∃ u, us[n]? = some u ∧ Rep w im v u := by
  induction as generalizing us n with
  | nil => simp at hv
  | cons a as ih => cases h with
    | cons _ u _ us h t => cases n with
      | zero => simp at hv; subst hv; exact ⟨u, rfl, h⟩
      | succ n => exact ih t n (by simpa using hv)
theorem LRL.get {w : World} {im : Im} {ρ : Rho} {as : List PV} {us : List Value} (h : LRL w im ρ as us) (n : Nat) (v : PV) (hv : as[n]? = some v) : ∃ u, us[n]? = some u ∧ LR w im ρ v u := by
  induction as generalizing us n with
  | nil => simp at hv
  | cons a as ih => cases h with
    | cons _ u _ us h t => cases n with
      | zero => simp at hv; subst hv; exact ⟨u, rfl, h⟩
      | succ n => exact ih t n (by simpa using hv)
theorem RepL.toLRL {w : World} {im : Im} {ρ : Rho} : ∀ {as : List PV} {us : List Value}, RepL w im as us → LRL w im ρ as us
  | _, _, .nil => .nil
  | _, _, .cons v u _ _ h t => .cons v u _ _ (.ext _ _ h) t.toLRL

end Go.Vl
