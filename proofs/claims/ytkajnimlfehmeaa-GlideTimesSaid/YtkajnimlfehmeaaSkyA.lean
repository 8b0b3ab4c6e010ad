/-
  Words for memory that all contracts of this claim use: a slice value that reads as a list, kept over whatever turns nothing below; two laws on a map with integer keys that the call makes.
  Conditions: none beyond those that each theorem states.
-/
import Derived.Test.YtkajnimlfehmeaaRows
import Derived.WalkKit
import Derived.WalkSpells
import Derived.WalkLawsBesides
import Derived.BigQuiet
import Derived.Maps.Own
import Derived.Deep.Draws
import Derived.Laws.OwnMore
set_option linter.unusedSimpArgs false
set_option linter.unusedVariables false
namespace Go.Sky
open Go.RowKit Go.ChangeMaps

/-- Kept from simp: the walk takes equations of the context for rules. -/
theorem hide {p : Prop} (h : p) : Hid p := h

theorem setBlock_new (w : World) (o o' : Obj) : setBlock (w.alloc o) w.heap.size o' = w.alloc o' := by
  simp only [setBlock, World.alloc]
  congr 1
  apply Array.ext'
  simp
theorem setBlock_old (w : World) (b : Nat) (hb : b < w.heap.size) (o o' : Obj) : setBlock (w.alloc o) b o' = (setBlock w b o').alloc o := by
  simp only [setBlock, World.alloc]
  congr 1
  apply Array.ext'
  simp [hb]
section
variable {P : Program} {T K E : TypeId} {q : IntKind}
theorem run_mapPut (hT : P.underlying T = some (.map K E)) (hK : P.underlying K = some (.int q)) (w : World) (b : Nat) (es : Array MapEntry) (clock : Nat)
    (hb : w.heap[b]? = some (.map es clock)) (n : Int) (hw : (Lit.int q n).wf = true) (v : Value) (hn : Instr.findNow (.int q) (.int q n) es.toList 0 = some none) :
    Sem.run P (Instr.mapUpdate T (.map (some b)) (.int q n) v) w = .ok () (Go.ChangeMaps.setBlock w b (.map (es.push { key := .int q n, val := v, born := clock }) (clock + 1))) := by
  have hc := (Maps.int_keyed hK).check w false (Maps.keyOf_int_mk hK hw)
  simp [Instr.mapUpdate, run_underlying hT, MapKept.run_getObj_map hb, hc, Instr.findKey, run_underlying hK, hn, MapKept.run_setObj_map _ hb, Result.andThen, Go.ChangeMaps.setBlock]
theorem run_mapGet (hT : P.underlying T = some (.map K E)) (hK : P.underlying K = some (.int q)) (w : World) (b : Nat) (es : Array MapEntry) (clock : Nat)
    (hb : w.heap[b]? = some (.map es clock)) (n : Int) (hw : (Lit.int q n).wf = true) (i : Nat) (v : Value) (hn : Instr.findNow (.int q) (.int q n) es.toList 0 = some (some (i, v))) :
    Sem.run P (Instr.lookup T (.map (some b)) (.int q n) false) w = .ok v w := by
  have hc := (Maps.int_keyed hK).check w es.isEmpty (Maps.keyOf_int_mk hK hw)
  simp [Instr.lookup, run_underlying hT, MapKept.run_getObj_map hb, hc, Instr.findKey, run_underlying hK, hn, Result.andThen]
end

/-- The slice value '.slice A n c', elements of sz cells, holds the cells xs; where it holds any they lie in one block from lo on, below hi. -/
def Sl (w : World) (lo hi : Nat) (A : Option Addr) (n c sz : Nat) (xs : List Value) : Prop :=
  n ≤ c ∧ c ≤ maxLen ∧ xs.length = n * sz ∧ (0 < n → ∃ b off, A = some ⟨b, off, none⟩ ∧ lo ≤ b ∧ b < hi ∧ ∀ j u, xs[j]? = some u → w.cell? ⟨b, off + j, none⟩ = some u)

section
variable {w w' : World} {lo hi lo' hi' n c sz : Nat} {A : Option Addr} {xs : List Value}
theorem Sl.nil (w : World) (lo hi sz : Nat) : Sl w lo hi none 0 0 sz [] := ⟨Nat.le_refl _, Nat.zero_le _, by simp, fun h => absurd h (by omega)⟩
theorem Sl.len_le (h : Sl w lo hi A n c sz xs) : n ≤ 9223372036854775807 := by have := h.1; have := h.2.1; unfold maxLen at this; omega
theorem Sl.keep (h : Sl w lo hi A n c sz xs) (hk : ∀ p : Addr, lo ≤ p.block → p.block < hi → w'.cell? p = w.cell? p) : Sl w' lo hi A n c sz xs :=
  ⟨h.1, h.2.1, h.2.2.1, fun hn => by
    obtain ⟨b, off, e, hl, hb, hc⟩ := h.2.2.2 hn
    exact ⟨b, off, e, hl, hb, fun j u hu => (hk _ hl hb).trans (hc j u hu)⟩⟩
theorem Sl.weak (h : Sl w lo hi A n c sz xs) (hl : lo' ≤ lo) (hh : hi ≤ hi') : Sl w lo' hi' A n c sz xs :=
  ⟨h.1, h.2.1, h.2.2.1, fun hn => by
    obtain ⟨b, off, e, hl, hb, hc⟩ := h.2.2.2 hn
    exact ⟨b, off, e, by omega, by omega, hc⟩⟩
theorem Sl.below (h : Sl w lo hi A n c sz xs) {K : Nat} (hb : Below K w w') (hK : hi ≤ K) : Sl w' lo hi A n c sz xs := h.keep fun _ _ hp => hb.cell (by omega)
theorem Sl.drew (h : Sl w lo hi A n c sz xs) : Sl w.drew lo hi A n c sz xs := h
theorem Sl.alloc (h : Sl w lo hi A n c sz xs) (hB : hi ≤ w.heap.size) (o : Obj) : Sl (w.alloc o) lo hi A n c sz xs := h.keep fun p _ hp => World.cell?_alloc_lt w o p (by omega)
theorem Sl.setCell (h : Sl w lo hi A n c sz xs) {p : Addr} (hB : p.block < lo ∨ hi ≤ p.block) (u : Value) : Sl (w.setCell p u) lo hi A n c sz xs :=
  h.keep fun q hq hq' => World.cell?_setCell_other w p q u (fun e => by subst e; omega)
theorem Sl.of_own {base : Nat} {e : TypeId} {v : Value} (h : w.ownsRow base e sz v n xs) (hB : w.heap.size ≤ hi) (hlo : lo ≤ base) : ∃ A c, v = .slice A n c ∧ Sl w lo hi A n c sz xs := by
  have hl := h.lt
  have hcs := @World.ownsRow.cells w base e sz v n xs h
  obtain ⟨hx, h⟩ := h
  rcases h with ⟨rfl, rfl⟩ | ⟨g, cap, cur, rfl, hg, hh, hn, hm, hsz, htk⟩
  · exact ⟨none, 0, rfl, Nat.le_refl _, Nat.zero_le _, hx, fun h => absurd h (by omega)⟩
  · refine ⟨some ⟨g, 0, none⟩, cap, rfl, hn, hm, hx, fun _ => ⟨g, 0, rfl, by omega, ?_, fun j u hu => ?_⟩⟩
    · have := hl g rfl; omega
    · have := hcs (g := g) rfl j u hu
      unfold Addr.add at this
      split at this
      · rename_i h0; subst h0; exact this
      · exact this
/-- A block that is known whole, at its head. -/
theorem Sl.of_block {e : TypeId} {cs : Array Value} {b : Nat} (h : w.heap[b]? = some (.cells cs e (0, 0))) (hn : cs.size = n * sz) (hc : n ≤ c) (hm : c ≤ maxLen) (hl : lo ≤ b) (hB : b < hi) :
    Sl w lo hi (some ⟨b, 0, none⟩) n c sz cs.toList :=
  ⟨hc, hm, by simpa using hn, fun _ => ⟨b, 0, rfl, hl, hB, fun j u hu => by
    rw [Nat.zero_add, cell_of_row w b j cs e (0, 0) h]
    simpa using hu⟩⟩
theorem Sl.at_ (h : Sl w lo hi A n c sz xs) (hn : 0 < n) : ∃ b off, A = some ⟨b, off, none⟩ ∧ lo ≤ b ∧ b < hi ∧ ∀ j u, xs[j]? = some u → w.cell? ⟨b, off + j, none⟩ = some u := h.2.2.2 hn
end

/-- Ints as values. -/
def iv (l : List Int) : List Value := l.map (Value.int .i64)
theorem iv_snoc (l : List Int) (x : Int) : iv (l ++ [x]) = iv l ++ [.int .i64 x] := by simp [iv]
theorem iv_one (l : List Int) : ∀ u ∈ iv l, u.oneCell' = true := by simp [iv, Value.oneCell']
theorem iv_len (l : List Int) : (iv l).length = l.length := by simp [iv]

/-- A slice of ints that reads as the list xs. -/
def Ints (w : World) (lo hi : Nat) (A : Option Addr) (n c : Nat) (xs : List Int) : Prop := Sl w lo hi A n c 1 (iv xs)
section
variable {w w' : World} {lo hi lo' hi' n c : Nat} {A : Option Addr} {xs : List Int}
theorem Ints.len (h : Ints w lo hi A n c xs) : xs.length = n := by have := h.2.2.1; simpa [iv] using this
theorem Ints.len_le (h : Ints w lo hi A n c xs) : n ≤ 9223372036854775807 := Sl.len_le h
theorem Ints.weak (h : Ints w lo hi A n c xs) (hl : lo' ≤ lo) (hh : hi ≤ hi') : Ints w lo' hi' A n c xs := Sl.weak h hl hh
theorem Ints.below (h : Ints w lo hi A n c xs) {K : Nat} (hb : Below K w w') (hK : hi ≤ K) : Ints w' lo hi A n c xs := Sl.below h hb hK
theorem Ints.alloc (h : Ints w lo hi A n c xs) (hB : hi ≤ w.heap.size) (o : Obj) : Ints (w.alloc o) lo hi A n c xs := Sl.alloc h hB o
theorem Ints.setCell (h : Ints w lo hi A n c xs) {p : Addr} (hB : p.block < lo ∨ hi ≤ p.block) (u : Value) : Ints (w.setCell p u) lo hi A n c xs := Sl.setCell h hB u
theorem Ints.at_ (h : Ints w lo hi A n c xs) (hn : 0 < n) : ∃ b off, A = some ⟨b, off, none⟩ ∧ b < hi ∧ ∀ j, j < n → w.cell? ⟨b, off + j, none⟩ = some (.int .i64 (xs.getD j 0)) := by
  obtain ⟨b, off, e, _, hb, hc⟩ := Sl.at_ h hn
  refine ⟨b, off, e, hb, fun j hj => hc j _ ?_⟩
  have := h.len
  rw [iv, List.getElem?_map, List.getElem?_eq_getElem (by omega), List.getD_eq_getElem?_getD, List.getElem?_eq_getElem (by omega)]
  rfl
end
/-- The element type e of the slice type t: its row of the program's table. -/
def Elem (P : Program) (t e : TypeId) (sz bytes : Nat) (z : Value) : Prop := P.underlying t = some (.slice e) ∧ 0 < sz ∧ z.cells.size = sz ∧ ∃ i, P.info? e = some i ∧ i.zero = some z ∧ i.size = sz ∧ i.bytes = bytes
theorem Elem.mk' {P : Program} {t e : TypeId} {sz bytes : Nat} {z : Value} (ht : P.underlying t = some (.slice e)) (h : (P.info? e).map (fun i => (i.zero, i.size, i.bytes)) = some (some z, sz, bytes)) (hsz : 0 < sz) (hz : z.cells.size = sz) : Elem P t e sz bytes z :=
  let ⟨i, a, b, c, d⟩ := info_parts h
  ⟨ht, hsz, hz, i, a, b, c, d⟩

/-- The slice value v is the call's own (its block lies from base on) and holds the cells xs. -/
def Ow (w : World) (base : Nat) (e : TypeId) (sz : Nat) (v : Value) (xs : List Value) : Prop := ∃ n, w.ownsRow base e sz v n xs
section
variable {w w' : World} {base sz : Nat} {e : TypeId} {v : Value} {xs : List Value}
theorem Ow.nil (w : World) (base : Nat) (e : TypeId) (sz : Nat) : Ow w base e sz (.slice none 0 0) [] := ⟨0, World.ownsRow_nil _ _ _ _⟩
theorem Ow.new (w : World) (e : TypeId) (sz : Nat) (cs : Array Value) (n : Nat) (hn : cs.size = n * sz) (hm : n ≤ maxLen) {base : Nat} (hb : base ≤ w.heap.size) :
    Ow (w.alloc (.cells cs e)) base e sz (.slice (some ⟨w.heap.size, 0, none⟩) n n) cs.toList :=
  ⟨n, by simpa using hn, .inr ⟨_, n, cs, rfl, hb, heap_alloc_new w _, Nat.le_refl _, hm, hn, by rw [List.take_of_length_le (by simp [hn])]⟩⟩
theorem Ow.alloc (h : Ow w base e sz v xs) (o : Obj) : Ow (w.alloc o) base e sz v xs := let ⟨n, h⟩ := h; ⟨n, h.alloc o⟩
theorem Ow.drew (h : Ow w base e sz v xs) : Ow w.drew base e sz v xs := h
theorem Ow.sl (h : Ow w base e sz v xs) : ∃ A n c, v = .slice A n c ∧ Sl w base w.heap.size A n c sz xs := by
  obtain ⟨n, h⟩ := h
  obtain ⟨A, c, hv, hs⟩ := Sl.of_own h (Nat.le_refl _) (Nat.le_refl _)
  exact ⟨A, n, c, hv, hs⟩
theorem Ow.below {K : Nat} (h : Ow w base e sz v xs) (hb : Below K w w') (hK : w.heap.size ≤ K) : Ow w' base e sz v xs := by
  obtain ⟨n, h1, h2⟩ := h
  refine ⟨n, h1, ?_⟩
  rcases h2 with h2 | ⟨g, cap, cur, hv, hg, hh, r⟩
  · exact .inl h2
  · have hlt : g < w.heap.size := by
      rcases Nat.lt_or_ge g w.heap.size with hlt | hge
      · exact hlt
      · rw [Array.getElem?_eq_none hge] at hh; cases hh
    exact .inr ⟨g, cap, cur, hv, hg, (hb.block g (by omega)).trans hh, r⟩
end

theorem Ow.weak {w : World} {base base' sz : Nat} {e : TypeId} {v : Value} {xs : List Value} (h : Ow w base e sz v xs) (hb : base' ≤ base) : Ow w base' e sz v xs := by
  obtain ⟨n, h1, h2⟩ := h
  refine ⟨n, h1, ?_⟩
  rcases h2 with h2 | ⟨g, cap, cur, hv, hg, r⟩
  · exact .inl h2
  · exact .inr ⟨g, cap, cur, hv, by omega, r⟩
theorem Ow.setCell {w : World} {base sz : Nat} {e : TypeId} {v : Value} {xs : List Value} (h : Ow w base e sz v xs) {p : Addr} (hp : p.block < base) (u : Value) : Ow (w.setCell p u) base e sz v xs := by
  obtain ⟨n, h1, h2⟩ := h
  refine ⟨n, h1, ?_⟩
  rcases h2 with h2 | ⟨g, cap, cur, hv, hg, hh, r⟩
  · exact .inl h2
  · exact .inr ⟨g, cap, cur, hv, hg, by rw [Below.heap_setCell _ _ _ _ (by omega)]; exact hh, r⟩
/-- A slice of the call's own, as a slice that can be read. -/
theorem Ow.ints {w : World} {base n c : Nat} {e : TypeId} {A : Option Addr} {xs : List Int} (h : Ow w base e 1 (.slice A n c) (iv xs)) : Ints w base w.heap.size A n c xs := by
  obtain ⟨A', n', c', hv, hs⟩ := h.sl
  injection hv with h1 h2 h3
  subst h1; subst h2; subst h3
  exact hs
/-- A call that hands back a slice of ints of its own and turns nothing that was there. -/
def RInts (w : World) (xs : List Int) (e : Ending) (w' : World) : Prop := ∃ A n c, e = .returned (.slice A n c) ∧ Ow w' w.heap.size 3 1 (.slice A n c) (iv xs) ∧ Below w.heap.size w w'

/-- 'append' to a slice that is nil or the call's own. The new list goes by the caller's own name ys. -/
theorem wpList_app {P : Program} {w : World} {ops : Array Oper} {rest : List Oper} {o : Oper} {a : Act} {Q : Exit → Act → World → Prop} (hgd : o.guard = none) (s x : Operand) (t : TypeId)
    (ho : o.op = .call { callee := .builtin .append, args := #[s, x], argTypes := #[t, t] })
    {e : TypeId} {sz bytes : Nat} {z : Value} (hE : Elem P t e sz bytes z) (hby : bytes ≤ 128)
    (base : Nat) (v : Value) (xs : List Value) (hs : a.eval s = v) (hown : Ow w base e sz v xs)
    (A : Option Addr) (m c lo hi : Nat) (news : List Value) (hx : a.eval x = .slice A m c) (hnew : Sl w lo hi A m c sz news) (h1 : ∀ u ∈ news, u.oneCell' = true)
    (hlen : xs.length + news.length ≤ 1099511627776) (hbase : base ≤ w.heap.size) (ys : List Value) (hys : ys = xs ++ news)
    (h : ∀ v' w', Ow w' base e sz v' ys → Below base w w' → wpList P ops Q rest (a.put o.dst v') w') : wpList P ops Q (o :: rest) a w := by
  obtain ⟨ht, hsz, hzs, i, hi0, hz, hsize, hb⟩ := hE
  obtain ⟨n, hrow⟩ := hown
  have hn1 : n ≤ xs.length := by rw [hrow.1]; exact Nat.le_mul_of_pos_right _ hsz
  have hm1 : m ≤ news.length := by rw [hnew.2.2.1]; exact Nat.le_mul_of_pos_right _ hsz
  have hbd : (n + m) * bytes ≤ 1099511627776 * 128 := Nat.mul_le_mul (by omega) hby
  rcases Nat.eq_zero_or_pos m with h0 | h0
  · subst h0
    have hnn : news = [] := List.eq_nil_of_length_eq_zero (by simpa using hnew.2.2.1)
    subst hnn
    have hlc : ∀ ad : Addr, (loadCells ad 0).run P w = .ok #[] w := fun ad => by simpa using run_loadCells (P := P) (w := w) ad 0 (fun _ => undef) (fun j hj => absurd hj (Nat.not_lt_zero _))
    have hrun : (Builtin.append_ #[t, t] o.type #[v, .slice A 0 c]).run P w = .ok v w := by
      rcases hrow.2 with ⟨rfl, rfl⟩ | ⟨g, cap, cur, rfl, _, _, hnc, _⟩
      · rcases A with _ | ad
        · simp [Builtin.append_, run_underlying ht, sizeOf, typeInfo, hi0, Builtin.lenOf, Builtin.firstCells]
        · simp [Builtin.append_, run_underlying ht, sizeOf, typeInfo, hi0, Builtin.lenOf, Builtin.firstCells, hlc ad]
      · rcases A with _ | ad
        · simp [Builtin.append_, run_underlying ht, sizeOf, typeInfo, hi0, Builtin.lenOf, Builtin.firstCells, hnc, storeCells]
        · simp [Builtin.append_, run_underlying ht, sizeOf, typeInfo, hi0, Builtin.lenOf, Builtin.firstCells, hnc, storeCells, hlc ad]
    refine wpList_plain hgd fun K hK => ?_
    unfold Oper.wp execOp
    simp only [ho, resolve, invoke, builtin, Sem.run_bind, Sem.run_pure, Result.andThen_ok, List.map_toArray, List.map_cons, List.map_nil, hs, hx, hrun]
    exact hK _ _ (h v w ⟨n, by rw [hys, List.append_nil]; exact hrow⟩ (Below.refl _ _))
  · obtain ⟨b, off, rfl, _, _, hc⟩ := hnew.at_ h0
    refine wpList_append_own w hgd s x t ho base e i z sz bytes ht hi0 hz hsize hb hzs hsz v n xs hs hrow ⟨b, off, none⟩ m c news hx hnew.2.2.1 (fun j u hu => ?_) h1 (by simp only [maxLen]; omega) (by omega) hbase fun v' w' hown' hgr _ => ?_
    · have := hc j u hu
      unfold Addr.add
      split
      · rename_i h0; subst h0; exact this
      · exact this
    · exact h v' w' ⟨n + m, hys ▸ hown'⟩ ((Below.refl _ _).grown hgr hbase fun k hk => (hrow.lt k hk).1)

/-- One new cell, in a block of its own. -/
theorem Sl.one (w : World) (u : Value) (e : TypeId) : Sl (w.alloc (.cells #[u] e)) w.heap.size (w.heap.size + 1) (some ⟨w.heap.size, 0, none⟩) 1 1 1 [u] :=
  Sl.of_block (heap_alloc_new w _) rfl (Nat.le_refl _) (by decide) (Nat.le_refl _) (Nat.lt_succ_self _)

/-! ### A region that draws its order: what it keeps: every block that was there, but for block N. -/
def Gr (N : Nat) (w w' : World) : Prop := w.grownBy w' (some N)
section
variable {N : Nat} {w w1 w2 : World}
theorem Gr.drew0 (N : Nat) (w : World) : Gr N w w.drew := ⟨rfl, rfl, rfl, Nat.le_refl _, fun _ _ _ => rfl⟩
theorem Gr.call (h : Gr N w w1) (hb : Below w1.heap.size w1 w2) : Gr N w w2 :=
  ⟨hb.os.trans h.os, hb.tape.trans h.tape, hb.output.trans h.output, Nat.le_trans h.size hb.size, fun k hk hn => (hb.block k (by have := h.size; omega)).trans (h.block k hk hn)⟩
theorem Gr.grown (h : Gr N w w1) (hb : w1.grownBy w2 (some N)) : Gr N w w2 :=
  ⟨hb.os.trans h.os, hb.tape.trans h.tape, hb.output.trans h.output, Nat.le_trans h.size hb.size, fun k hk hn => (hb.block k (by have := h.size; omega) hn).trans (h.block k hk hn)⟩
theorem Gr.set (h : Gr N w w1) (j : Nat) (u : Value) : Gr N w (w1.setCell ⟨N, j, none⟩ u) :=
  h.grown ⟨rfl, rfl, rfl, by simp, fun k _ hn => Below.heap_setCell _ _ _ _ (fun e => hn (by rw [e]))⟩
theorem Gr.set6 {u0 u1 u2 u3 u4 u5 : Value} (h : Gr N w w1) : Gr N w ((((((w1.setCell ⟨N, 0, none⟩ u0).setCell ⟨N, 1, none⟩ u1).setCell ⟨N, 2, none⟩ u2).setCell ⟨N, 3, none⟩ u3).setCell ⟨N, 4, none⟩ u4).setCell ⟨N, 5, none⟩ u5) :=
  (((((h.set 0 _).set 1 _).set 2 _).set 3 _).set 4 _).set 5 _
theorem Ow.set6 {u0 u1 u2 u3 u4 u5 v : Value} {base base' sz : Nat} {e : TypeId} {xs : List Value} (h : Ow w base e sz v xs) (hN : N < base) (hl : base' ≤ base) :
    Ow ((((((w.setCell ⟨N, 0, none⟩ u0).setCell ⟨N, 1, none⟩ u1).setCell ⟨N, 2, none⟩ u2).setCell ⟨N, 3, none⟩ u3).setCell ⟨N, 4, none⟩ u4).setCell ⟨N, 5, none⟩ u5) base' e sz v xs :=
  ((((((h.setCell hN _).setCell hN _).setCell hN _).setCell hN _).setCell hN _).setCell hN _).weak hl
theorem Gr.alloc (h : Gr N w w1) (o : Obj) : Gr N w (w1.alloc o) := h.call ((Below.refl _ _).alloc (Nat.le_refl _) _)
theorem Gr.cell (h : Gr N w w1) {p : Addr} {v : Value} (hn : p.block ≠ N) (hc : w.cell? p = some v) : w1.cell? p = some v :=
  World.grownBy.cell h hc (fun e => hn (by injection e))
theorem Gr.sl (h : Gr N w w1) {lo hi : Nat} {A : Option Addr} {n c sz : Nat} {xs : List Value} (hI : Sl w lo hi A n c sz xs) (hN : N < lo ∨ hi ≤ N) (hh : hi ≤ w.heap.size) : Sl w1 lo hi A n c sz xs :=
  hI.keep fun p hl hp => World.cell?_of_block (h.block p.block (by omega) (fun e => by injection e; omega))
theorem Gr.ints (h : Gr N w w1) {lo hi : Nat} {A : Option Addr} {n c : Nat} {xs : List Int} (hI : Ints w lo hi A n c xs) (hN : N < lo ∨ hi ≤ N) (hh : hi ≤ w.heap.size) : Ints w1 lo w1.heap.size A n c xs :=
  Ints.weak (Gr.sl h hI hN hh) (Nat.le_refl _) (Nat.le_trans hh h.size)
theorem Gr.below (h : Gr N w w1) {B : Nat} (hB : B ≤ N) (hB' : B ≤ w.heap.size) : Below B w w1 := ⟨h.os, h.tape, h.output, h.size, fun k hk => h.block k (by omega) (fun e => by injection e; omega)⟩
theorem row_call {o : Obj} (hR : w1.heap[N]? = some o) (hb : Below w1.heap.size w1 w2) : w2.heap[N]? = some o := (hb.block N (Array.getElem?_eq_some_iff.1 hR).1).trans hR
theorem row_alloc {o : Obj} (hR : w1.heap[N]? = some o) (o' : Obj) : (w1.alloc o').heap[N]? = some o := (Below.heap_alloc _ _ _ (Array.getElem?_eq_some_iff.1 hR).1).trans hR
end

/-- 'store' of a whole struct into its own block: what is known of the world behind it. -/
theorem store_row {P : Program} {w : World} {o : Oper} {a : Act} {K : Act → World → Prop} {Q : Exit → Act → World → Prop} (ty : TypeId) (x y : Operand) (ho : o.op = .store ty x y)
    (g : Nat) (cells : Array Value) (hx : a.eval x = .pointer (some ⟨g, 0, none⟩)) (hy : a.eval y = .agg cells)
    (t : TypeId) (old : Array Value) (hg : w.heap[g]? = some (.cells old t (0, 0))) (hi : (P.info? ty).map (·.size) = some cells.size)
    (hold : old.size = cells.size) (h1 : cells.all (·.oneCell') = true)
    (h : ∀ w', w'.heap[g]? = some (.cells cells t (0, 0)) → w.grownBy w' (some g) → K (a.put o.dst undef) w') : o.wp P a w K Q := by
  refine wp_store_row ty x y ho g cells hx hy t old hg hi hold h1 (h _ ?_ ?_)
  · simp [World.setRow, Array.getElem?_modify, hg]
  · refine ⟨rfl, rfl, rfl, by simp [World.setRow], fun k _ hne => ?_⟩
    simp only [World.setRow, Array.getElem?_modify]
    rw [if_neg (fun e => hne (by rw [e]))]
theorem step_store_row {P : Program} {ops : Array Oper} {o : Oper} {a : Act} {w : World} {K : Act → World → Prop} {Q : Exit → Act → World → Prop} {E : Prop} (hgd : o.guard = none) (ty : TypeId) (x y : Operand) (ho : o.op = .store ty x y)
    (g : Nat) (cells : Array Value) (hx : a.eval x = .pointer (some ⟨g, 0, none⟩)) (hy : a.eval y = .agg cells)
    (t : TypeId) (old : Array Value) (hg : w.heap[g]? = some (.cells old t (0, 0))) (hi : (P.info? ty).map (·.size) = some cells.size)
    (hold : old.size = cells.size) (h1 : cells.all (·.oneCell') = true)
    (h : ∀ w', w'.heap[g]? = some (.cells cells t (0, 0)) → w.grownBy w' (some g) → K (a.put o.dst undef) w') : if Region.wanted o (yielded ops a.tmps) = true then Oper.wp P o a w K Q else E := by
  rw [if_pos (by simp [Region.wanted, hgd])]
  exact store_row ty x y ho g cells hx hy t old hg hi hold h1 h
theorem wpList_store_row {P : Program} {ops : Array Oper} {rest : List Oper} {o : Oper} {a : Act} {w : World} {Q : Exit → Act → World → Prop} (hgd : o.guard = none) (ty : TypeId) (x y : Operand) (ho : o.op = .store ty x y)
    (g : Nat) (cells : Array Value) (hx : a.eval x = .pointer (some ⟨g, 0, none⟩)) (hy : a.eval y = .agg cells)
    (t : TypeId) (old : Array Value) (hg : w.heap[g]? = some (.cells old t (0, 0))) (hi : (P.info? ty).map (·.size) = some cells.size)
    (hold : old.size = cells.size) (h1 : cells.all (·.oneCell') = true)
    (h : ∀ w', w'.heap[g]? = some (.cells cells t (0, 0)) → w.grownBy w' (some g) → wpList P ops Q rest (a.put o.dst undef) w') : wpList P ops Q (o :: rest) a w :=
  wpList_plain hgd fun _ hK => store_row ty x y ho g cells hx hy t old hg hi hold h1 fun w' a b => hK _ _ (h w' a b)

/-- A block that is known whole: its cells, and that it may be written. -/
theorem row_cell {w : World} {g : Nat} {t : TypeId} {cs : Array Value} (h : w.heap[g]? = some (.cells cs t (0, 0))) (i : Nat) : w.cell? ⟨g, i, none⟩ = cs[i]? := cell_of_row w g i cs t (0, 0) h
theorem row_free {w : World} {g : Nat} {t : TypeId} {cs : Array Value} (h : w.heap[g]? = some (.cells cs t (0, 0))) (i : Nat) : w.frozen? ⟨g, i, none⟩ = false := by simp [World.frozen?, h]
theorem row6 {w : World} {g : Nat} {t : TypeId} {v0 v1 v2 v3 v4 v5 : Value} (h : w.heap[g]? = some (.cells #[v0, v1, v2, v3, v4, v5] t (0, 0))) :
    (w.cell? ⟨g, 0, none⟩ = some v0 ∧ w.cell? ⟨g, 1, none⟩ = some v1 ∧ w.cell? ⟨g, 2, none⟩ = some v2 ∧ w.cell? ⟨g, 3, none⟩ = some v3 ∧ w.cell? ⟨g, 4, none⟩ = some v4 ∧ w.cell? ⟨g, 5, none⟩ = some v5) ∧ ∀ j, w.frozen? ⟨g, j, none⟩ = false :=
  ⟨⟨row_cell h 0, row_cell h 1, row_cell h 2, row_cell h 3, row_cell h 4, row_cell h 5⟩, row_free h⟩
theorem row_set {w : World} {g : Nat} {t : TypeId} {cs : Array Value} (h : w.heap[g]? = some (.cells cs t (0, 0))) (i : Nat) (u : Value) : (w.setCell ⟨g, i, none⟩ u).heap[g]? = some (.cells (cs.setIfInBounds i u) t (0, 0)) := by
  simp [World.setCell, Array.getElem?_modify, h]
theorem row_set6 {w : World} {g : Nat} {t : TypeId} {v0 v1 v2 v3 v4 v5 u0 u1 u2 u3 u4 u5 : Value} (h : w.heap[g]? = some (.cells #[v0, v1, v2, v3, v4, v5] t (0, 0))) :
    ((((((w.setCell ⟨g, 0, none⟩ u0).setCell ⟨g, 1, none⟩ u1).setCell ⟨g, 2, none⟩ u2).setCell ⟨g, 3, none⟩ u3).setCell ⟨g, 4, none⟩ u4).setCell ⟨g, 5, none⟩ u5).heap[g]? = some (.cells #[u0, u1, u2, u3, u4, u5] t (0, 0)) :=
  row_set (row_set (row_set (row_set (row_set (row_set h 0 u0) 1 u1) 2 u2) 3 u3) 4 u4) 5 u5
theorem row_new (w : World) (o : Obj) : (w.alloc o).heap[w.heap.size]? = some o := heap_alloc_new w o

/-! ### Results that are structs: they lie in a block of their own. -/
section
variable {P : Program} {fn : Func} {p u : Tmp} {ty : TypeId} {tmps : Array Value} {w : World} {g : Nat} {t : TypeId} {cs : Array Value} {d : TypeDesc}
theorem results_row (h : fn.results = #[.cell p ty]) (hp : tmps.getD p undef = .pointer (some ⟨g, 0, none⟩)) (hR : w.heap[g]? = some (.cells cs t (0, 0)))
    (hu : P.underlying ty = some d) (hd : (match d with | .struct _ | .array _ _ => true | _ => false) = true) (hi : (P.info? ty).map (·.size) = some cs.size) :
    (results fn tmps).run P w = .ok (.agg cs) w := by
  have hl := run_loadVar_row (P := P) w g t ty cs (0, 0) d hR hu hd hi
  have hp' : tmps[p]?.getD undef = .pointer (some ⟨g, 0, none⟩) := by simpa using hp
  simp only [results, h]
  simp [hp', asAddr, hl]
theorem results_row_tmp (h : fn.results = #[.cell p ty, .tmp u]) (hp : tmps.getD p undef = .pointer (some ⟨g, 0, none⟩)) (hR : w.heap[g]? = some (.cells cs t (0, 0)))
    (hu : P.underlying ty = some d) (hd : (match d with | .struct _ | .array _ _ => true | _ => false) = true) (hi : (P.info? ty).map (·.size) = some cs.size) :
    (results fn tmps).run P w = .ok (.tuple #[.agg cs, tmps.getD u undef]) w := by
  have hl := run_loadVar_row (P := P) w g t ty cs (0, 0) d hR hu hd hi
  have hp' : tmps[p]?.getD undef = .pointer (some ⟨g, 0, none⟩) := by simpa using hp
  simp only [results, h]
  simp [Result.andThen, hp', asAddr, hl]
end

/-! ### Segments and paths. -/
structure Seg where
  frm : Int
  til : Int
  over : Int
  X : List Int
  Y : List Int
  Z : List Int
/-- The six cells of a segment. -/
def SegC (w : World) (lo hi : Nat) (cs : Array Value) (s : Seg) : Prop :=
  ∃ A1 n1 c1 A2 n2 c2 A3 n3 c3, cs = #[.int .i64 s.frm, .int .i64 s.til, .int .i64 s.over, .slice A1 n1 c1, .slice A2 n2 c2, .slice A3 n3 c3] ∧ Ints w lo hi A1 n1 c1 s.X ∧ Ints w lo hi A2 n2 c2 s.Y ∧ Ints w lo hi A3 n3 c3 s.Z
/-- A slice of segments that reads as the path p. -/
def PathV (w : World) (lo hi : Nat) (A : Option Addr) (n c : Nat) (p : List Seg) : Prop :=
  p.length = n ∧ ∃ css : Nat → Array Value, Sl w lo hi A n c 6 ((List.range n).flatMap fun i => (css i).toList) ∧ ∀ i s, p[i]? = some s → SegC w lo hi (css i) s
section
variable {w w' : World} {lo hi lo' hi' n c : Nat} {A : Option Addr} {cs : Array Value} {s : Seg} {p : List Seg}
theorem SegC.size (h : SegC w lo hi cs s) : cs.size = 6 := by obtain ⟨_, _, _, _, _, _, _, _, _, rfl, _⟩ := h; rfl
theorem SegC.weak (h : SegC w lo hi cs s) (hl : lo' ≤ lo) (hh : hi ≤ hi') : SegC w lo' hi' cs s := by
  obtain ⟨A1, n1, c1, A2, n2, c2, A3, n3, c3, e, h1, h2, h3⟩ := h
  exact ⟨A1, n1, c1, A2, n2, c2, A3, n3, c3, e, h1.weak hl hh, h2.weak hl hh, h3.weak hl hh⟩
theorem SegC.below (h : SegC w lo hi cs s) {K : Nat} (hb : Below K w w') (hK : hi ≤ K) : SegC w' lo hi cs s := by
  obtain ⟨A1, n1, c1, A2, n2, c2, A3, n3, c3, e, h1, h2, h3⟩ := h
  exact ⟨A1, n1, c1, A2, n2, c2, A3, n3, c3, e, h1.below hb hK, h2.below hb hK, h3.below hb hK⟩
theorem SegC.alloc (h : SegC w lo hi cs s) (hB : hi ≤ w.heap.size) (o : Obj) : SegC (w.alloc o) lo hi cs s := h.below ((Below.refl _ _).alloc hB o) (Nat.le_refl _)
theorem PathV.weak (h : PathV w lo hi A n c p) (hl : lo' ≤ lo) (hh : hi ≤ hi') : PathV w lo' hi' A n c p := by
  obtain ⟨h0, css, h1, h2⟩ := h
  exact ⟨h0, css, h1.weak hl hh, fun i s hs => (h2 i s hs).weak hl hh⟩
theorem PathV.below (h : PathV w lo hi A n c p) {K : Nat} (hb : Below K w w') (hK : hi ≤ K) : PathV w' lo hi A n c p := by
  obtain ⟨h0, css, h1, h2⟩ := h
  exact ⟨h0, css, h1.below hb hK, fun i s hs => (h2 i s hs).below hb hK⟩
theorem PathV.len_le (h : PathV w lo hi A n c p) : n ≤ 9223372036854775807 := by obtain ⟨_, css, h1, _⟩ := h; exact h1.len_le
theorem PathV.nil (w : World) (lo hi : Nat) : PathV w lo hi none 0 0 [] := ⟨rfl, fun _ => #[], Sl.nil _ _ _ _, fun i s h => by simp at h⟩
theorem flat_get (css : Nat → Array Value) (sz : Nat) : ∀ (n : Nat), (∀ i, i < n → (css i).size = sz) → ∀ i j, i < n → j < sz → ((List.range n).flatMap fun i => (css i).toList)[i * sz + j]? = (css i)[j]? ∧ ((List.range n).flatMap fun i => (css i).toList).length = n * sz
  | 0, _, i, _, hi, _ => by omega
  | n + 1, h, i, j, hi, hj => by
    have hn : ((List.range n).flatMap fun i => (css i).toList).length = n * sz := by
      rcases Nat.eq_zero_or_pos n with rfl | hp
      · simp
      · exact (flat_get css sz n (fun i hi => h i (by omega)) 0 j hp hj).2
    rw [List.range_succ, List.flatMap_append, List.flatMap_singleton]
    refine ⟨?_, by rw [List.length_append, hn, Array.length_toList, h n (Nat.lt_succ_self n), Nat.succ_mul]⟩
    by_cases hin : i < n
    · have := (flat_get css sz n (fun i hi => h i (by omega)) i j hin hj).1
      rw [List.getElem?_append_left, this]
      rw [hn]
      calc i * sz + j < i * sz + sz := by omega
        _ = (i + 1) * sz := by rw [Nat.succ_mul]
        _ ≤ n * sz := Nat.mul_le_mul_right _ hin
    · obtain rfl : i = n := by omega
      rw [List.getElem?_append_right (by rw [hn]; omega), hn]
      simp
theorem PathV.at_ (h : PathV w lo hi A n c p) (hn : 0 < n) : ∃ b off, A = some ⟨b, off, none⟩ ∧ lo ≤ b ∧ b < hi ∧ ∀ i s, p[i]? = some s → ∃ cs, SegC w lo hi cs s ∧ ∀ j, j < 6 → w.cell? ⟨b, off + (i * 6 + j), none⟩ = cs[j]? := by
  obtain ⟨h0, css, h1, h2⟩ := h
  obtain ⟨b, off, e, hl, hh, hc⟩ := h1.at_ hn
  refine ⟨b, off, e, hl, hh, fun i s hs => ⟨css i, h2 i s hs, fun j hj => ?_⟩⟩
  have hi' : i < n := by
    rw [← h0]
    exact (List.getElem?_eq_some_iff.1 hs).1
  have hz : ∀ i, i < n → (css i).size = 6 := fun i hi => (h2 i _ (List.getElem?_eq_getElem (by omega))).size
  have hg := (flat_get css 6 n hz i j hi' hj).1
  have hj' : j < (css i).size := by rw [hz i hi']; exact hj
  have hv : (css i)[j]? = some ((css i)[j]) := Array.getElem?_eq_getElem hj'
  rw [hv] at hg ⊢
  exact hc _ _ hg
end
theorem PathV.one {w : World} {lo hi : Nat} {cs : Array Value} {s : Seg} {e : TypeId} (h : SegC w lo hi cs s) (hl : lo ≤ w.heap.size) (hh : hi ≤ w.heap.size) : PathV (w.alloc (.cells cs e)) lo (w.heap.size + 1) (some ⟨w.heap.size, 0, none⟩) 1 1 [s] := by
  refine ⟨rfl, fun _ => cs, ?_, fun i s' hs => ?_⟩
  · have := Sl.of_block (lo := lo) (hi := w.heap.size + 1) (n := 1) (c := 1) (sz := 6) (row_new w (.cells cs e)) h.size (Nat.le_refl _) (by decide) hl (Nat.lt_succ_self _)
    simpa using this
  · match i, hs with
    | 0, hs =>
      obtain rfl : s = s' := by simpa using hs
      exact (h.alloc hh _).weak (Nat.le_refl _) (by omega)
    | _ + 1, hs => simp at hs
/-- The six cells of element k, as the walk spells their addresses. -/
theorem PathV.row {w w' : World} {lo hi n c k K : Nat} {A : Option Addr} {p : List Seg} (h : PathV w lo hi A n c p) (hb : Below K w w') (hK : hi ≤ K) (hk : k < n) :
    ∃ b off v0 v1 v2 v3 v4 v5 s, A = some ⟨b, off, none⟩ ∧ lo ≤ b ∧ b < hi ∧ p[k]? = some s ∧ SegC w' lo hi #[v0, v1, v2, v3, v4, v5] s ∧ w'.cell? ⟨b, off + k * 6, none⟩ = some v0 ∧ w'.cell? ⟨b, off + k * 6 + 1, none⟩ = some v1 ∧
      w'.cell? ⟨b, off + k * 6 + 2, none⟩ = some v2 ∧ w'.cell? ⟨b, off + k * 6 + 3, none⟩ = some v3 ∧ w'.cell? ⟨b, off + k * 6 + 4, none⟩ = some v4 ∧ w'.cell? ⟨b, off + k * 6 + 5, none⟩ = some v5 := by
  have h' := h.below hb hK
  have h0 := h.1
  obtain ⟨b, off, rfl, hl, hh, hc⟩ := h'.at_ (by omega)
  have hs : p[k]? = some p[k] := List.getElem?_eq_getElem (by omega)
  obtain ⟨cs, hseg, hcell⟩ := hc k _ hs
  obtain ⟨v0, v1, v2, v3, v4, v5, rfl⟩ : ∃ v0 v1 v2 v3 v4 v5, cs = #[v0, v1, v2, v3, v4, v5] := by obtain ⟨_, _, _, _, _, _, _, _, _, rfl, _⟩ := hseg; exact ⟨_, _, _, _, _, _, rfl⟩
  exact ⟨b, off, v0, v1, v2, v3, v4, v5, p[k], rfl, hl, hh, hs, hseg, hcell 0 (by omega), by rw [Nat.add_assoc]; exact hcell 1 (by omega), by rw [Nat.add_assoc]; exact hcell 2 (by omega),
    by rw [Nat.add_assoc]; exact hcell 3 (by omega), by rw [Nat.add_assoc]; exact hcell 4 (by omega), by rw [Nat.add_assoc]; exact hcell 5 (by omega)⟩
/-- A call that hands back a path and a number. -/
def RPath (w : World) (p : List Seg) (er : Int) (e : Ending) (w' : World) : Prop := ∃ A n c, e = .returned (.tuple #[.slice A n c, .int .i64 er]) ∧ PathV w' w.heap.size w'.heap.size A n c p ∧ Below w.heap.size w w'
/-- A segment of the call's own. -/
def SegO (w : World) (base : Nat) (cs : Array Value) (s : Seg) : Prop :=
  ∃ A1 n1 c1 A2 n2 c2 A3 n3 c3, cs = #[.int .i64 s.frm, .int .i64 s.til, .int .i64 s.over, .slice A1 n1 c1, .slice A2 n2 c2, .slice A3 n3 c3] ∧ Ow w base 3 1 (.slice A1 n1 c1) (iv s.X) ∧ Ow w base 3 1 (.slice A2 n2 c2) (iv s.Y) ∧ Ow w base 3 1 (.slice A3 n3 c3) (iv s.Z)
theorem SegO.seg {w : World} {base : Nat} {cs : Array Value} {s : Seg} (h : SegO w base cs s) : SegC w base w.heap.size cs s := by
  obtain ⟨A1, n1, c1, A2, n2, c2, A3, n3, c3, e, h1, h2, h3⟩ := h
  exact ⟨A1, n1, c1, A2, n2, c2, A3, n3, c3, e, h1.ints, h2.ints, h3.ints⟩
def RSeg (w : World) (s : Seg) (e : Ending) (w' : World) : Prop := ∃ cs, e = .returned (.agg cs) ∧ SegO w' w.heap.size cs s ∧ Below w.heap.size w w'

theorem SegO.weak {w : World} {base base' : Nat} {cs : Array Value} {s : Seg} (h : SegO w base cs s) (hb : base' ≤ base) : SegO w base' cs s := by
  obtain ⟨A1, n1, c1, A2, n2, c2, A3, n3, c3, e, x, y, z⟩ := h
  exact ⟨A1, n1, c1, A2, n2, c2, A3, n3, c3, e, x.weak hb, y.weak hb, z.weak hb⟩
theorem SegO.below {w w' : World} {base K : Nat} {cs : Array Value} {s : Seg} (h : SegO w base cs s) (hb : Below K w w') (hK : w.heap.size ≤ K) : SegO w' base cs s := by
  obtain ⟨A1, n1, c1, A2, n2, c2, A3, n3, c3, e, x, y, z⟩ := h
  exact ⟨A1, n1, c1, A2, n2, c2, A3, n3, c3, e, x.below hb hK, y.below hb hK, z.below hb hK⟩

/-- A slice of three-cell vectors. -/
structure V3 where
  x : Int
  y : Int
  z : Int
def V3.cells (v : V3) : Array Value := #[.int .i64 v.x, .int .i64 v.y, .int .i64 v.z]
def Vecs (w : World) (lo hi : Nat) (A : Option Addr) (n c : Nat) (ps : List V3) : Prop := ps.length = n ∧ Sl w lo hi A n c 3 ((List.range n).flatMap fun i => ((ps.getD i ⟨0, 0, 0⟩).cells).toList)
theorem Vecs.at_ {w : World} {lo hi n c : Nat} {A : Option Addr} {ps : List V3} (h : Vecs w lo hi A n c ps) (hn : 0 < n) :
    ∃ b off, A = some ⟨b, off, none⟩ ∧ lo ≤ b ∧ b < hi ∧ ∀ k, k < n → w.cell? ⟨b, off + k * 3, none⟩ = some (.int .i64 (ps.getD k ⟨0, 0, 0⟩).x) ∧ w.cell? ⟨b, off + k * 3 + 1, none⟩ = some (.int .i64 (ps.getD k ⟨0, 0, 0⟩).y) ∧ w.cell? ⟨b, off + k * 3 + 2, none⟩ = some (.int .i64 (ps.getD k ⟨0, 0, 0⟩).z) := by
  obtain ⟨b, off, e, hl, hh, hc⟩ := h.2.at_ hn
  refine ⟨b, off, e, hl, hh, fun k hk => ?_⟩
  have g := fun j hj => (flat_get (fun i => (ps.getD i ⟨0, 0, 0⟩).cells) 3 n (fun _ _ => rfl) k j hk hj).1
  exact ⟨hc _ _ (g 0 (by omega)), by rw [Nat.add_assoc]; exact hc _ _ (g 1 (by omega)), by rw [Nat.add_assoc]; exact hc _ _ (g 2 (by omega))⟩
theorem Vecs.below {w w' : World} {lo hi n c K : Nat} {A : Option Addr} {ps : List V3} (h : Vecs w lo hi A n c ps) (hb : Below K w w') (hK : hi ≤ K) : Vecs w' lo hi A n c ps := ⟨h.1, h.2.below hb hK⟩
theorem Vecs.len_le {w : World} {lo hi n c : Nat} {A : Option Addr} {ps : List V3} (h : Vecs w lo hi A n c ps) : n ≤ 9223372036854775807 := h.2.len_le

theorem cells_new (w : World) (cs : Array Value) (e : TypeId) : ∀ j u, cs.toList[j]? = some u → (w.alloc (.cells cs e)).cell? ⟨w.heap.size, j, none⟩ = some u := fun j u hu => by
  rw [row_cell (row_new w (.cells cs e)) j]
  simpa using hu
theorem Ow.slice {w : World} {base n c sz : Nat} {e : TypeId} {A : Option Addr} {xs : List Value} (h : Ow w base e sz (.slice A n c) xs) : Sl w base w.heap.size A n c sz xs := by
  obtain ⟨A', n', c', hv, hs⟩ := h.sl
  injection hv with h1 h2 h3
  subst h1; subst h2; subst h3
  exact hs
theorem flat6_len : ∀ (xs : List (Array Value)), (∀ x ∈ xs, x.size = 6) → (xs.flatMap Array.toList).length = xs.length * 6
  | [], _ => rfl
  | p :: xs, h => by
    rw [List.flatMap_cons, List.length_append, flat6_len xs (fun x hx => h x (List.mem_cons_of_mem _ hx)), Array.length_toList, h p (List.mem_cons_self), List.length_cons]
    omega
theorem flat_range (xs : List (Array Value)) : (List.range xs.length).flatMap (fun i => (xs.getD i #[]).toList) = xs.flatMap Array.toList := by
  have h : (List.range xs.length).map (fun i => xs.getD i #[]) = xs := by
    apply List.ext_getElem
    · simp
    · intro i h1 h2
      simp [List.getElem?_eq_getElem h2]
  calc (List.range xs.length).flatMap (fun i => (xs.getD i #[]).toList) = ((List.range xs.length).map (fun i => xs.getD i #[])).flatMap Array.toList := by rw [List.flatMap_map]
    _ = xs.flatMap Array.toList := by rw [h]
end Go.Sky
