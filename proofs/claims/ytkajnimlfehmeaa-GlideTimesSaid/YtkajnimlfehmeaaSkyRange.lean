/-
  A range over an iterator whose contract says, at each call of yield, what holds of the handed value in the world at hand, and in the end what holds of all of them; for a loop body that never leaves the loop.
  Conditions: those that each theorem states.
-/
import Derived.Test.YtkajnimlfehmeaaSkyIn
set_option linter.unusedSimpArgs false
set_option linter.unusedVariables false
namespace Go.Sky
open Go.RowKit

section
variable {α : Type} {P : Program} {n : Nat}

/-- The contract of an iterator (function g with the captured values lb), for a body that goes on in every round: it calls yield with values x of which 'Fact pre x' holds in the world of the call, and in the end 'S xs' holds. -/
def SeqF (n : Nat) (P : Program) (g : Nat) (lb : Array Value) (encs : α → Array Value) (Fact : List α → α → World → Prop) (Kp : World → World → Prop) (S : List α → World → Prop) (w : World) : Prop :=
  ∀ (l : Nat) (J : List α → World → Prop) (W : World), Below w.heap.size w W → (∀ s A B, J s A → Below A.heap.size A B → J s B) →
    (∀ pre x W1, J pre W1 → Fact pre x W1 → YieldAt Fence.wide (n - 1) P l (encs x) W1 fun e W' => e = .returned (.bool true) ∧ J (pre ++ [x]) W' ∧ Kp W1 W') →
    J [] W → CallsIn Fence.wide n P g (#[.func (.yield l) #[] #[]] ++ lb) W fun e W' => (∃ v, e = .returned v) ∧ ∃ xs, J xs W' ∧ S xs W'

/-- How a body that goes on may be left. -/
def GoesOn (B : Nat) (Kp : World → World → Prop) (I : List α → World → Prop) (xs : List α) (W : World) : Exit → Act → World → Prop
  | .normal, _, W' => KeepsFrom B W W' ∧ Kp W W' ∧ I xs W'
  | _, _, _ => False

theorem rangeFunc_facts {g : Operand} {ps : Array Tmp} {assign body : Code} {Q : Exit → Act → World → Prop} {a : Act} {w : World}
    {gf : Nat} {lb : Array Value} (hg : a.eval g = .func (.func gf) #[] lb) (eg : ∀ args w, (callFunc gf args).run P w = .ok (.enter gf args) w)
    {encs : α → Array Value} {Fact : List α → α → World → Prop} {Kp : World → World → Prop} {S : List α → World → Prop} (hseq : SeqF (n - 1) P gf lb encs Fact Kp S w)
    (hKt : ∀ {A B C : World}, Kp A B → Kp B C → Kp A C) (hKb : ∀ (W : World) (l : Nat) (o o' : Obj), w.heap.size ≤ l → W.heap[l]? = some o → o.isCells = false → Kp W (W.putObj l o'))
    (hps : ∀ x, (encs x).size = ps.size) (I : List α → World → Prop) (hI : OwnFrom w.heap.size I) (hS : OwnFrom w.heap.size S) (hF : ∀ pre x, OwnFrom w.heap.size (fun (_ : Unit) W => Fact pre x W)) (h0 : I [] w)
    (Ax : α → Act → World → Prop) (hAx : ∀ x a', OwnFrom w.heap.size (fun (_ : Unit) W => Ax x a' W))
    (hassign : ∀ (l : Nat) (pre : List α) (x : α) (W : World) (K : Act → World → Prop), I pre W → Fact pre x W → (∀ a' W', KeepsFrom w.heap.size W W' → Kp W W' → I pre W' → Fact pre x W' → Ax x a' W' → K a' W') →
      assign.wpIn (Fence.wide.inRound l) (n - 1 - 1) P (Exit.then K (fun _ _ _ => False)) { tmps := (ps.zip (encs x)).foldl (fun t (p, v) => t.setIfInBounds p v) a.tmps, defers := [] } W)
    (hbody : ∀ (l : Nat) (pre : List α) (x : α) (a' : Act) (W : World), I pre W → Fact pre x W → Ax x a' W → body.wpIn (Fence.wide.inRound l) (n - 1 - 1) P (GoesOn w.heap.size Kp I (pre ++ [x]) W) a' W)
    (hdone : ∀ (D : Nat) (xs : List α) (W : World), w.heap.size ≤ D → S xs W → I xs W → W.heap[D]? = some (.deferred (some [])) → Q .normal { a with defers := { target := .collected D, args := #[] } :: a.defers } W) :
    (Code.rangeFunc g ps assign body).wpIn Fence.wide n P Q a w := by
  refine wpIn_rangeFunc ?_
  intro fn hfn
  obtain ⟨rec, hrec⟩ : ∃ rec : LoopState → Option Code → Loop, rec = fun st pe => { state := st, pending := pe, fn, tmps := a.tmps, params := ps, assign, body, defers := w.heap.size } := ⟨_, rfl⟩
  obtain ⟨W1, hW1⟩ : ∃ W1, (w.alloc (.deferred (some []))).alloc (.loop (rec .ready none)) = W1 := ⟨_, rfl⟩
  have hL1 : W1.heap[w.heap.size + 1]? = some (.loop (rec .ready none)) := by
    rw [← hW1]; have := row_new (w.alloc (.deferred (some []))) (.loop (rec .ready none)); rwa [World.size_alloc] at this
  have hK1 : W1.heap[w.heap.size]? = some (.deferred (some [])) := by rw [← hW1]; exact row_alloc (row_new w _) _
  have hI1 : I [] W1 := by rw [← hW1]; exact hI.alloc _ (hI.alloc _ h0)
  have hb1 : Below w.heap.size w W1 := by rw [← hW1]; exact ((Below.refl _ w).alloc (Nat.le_refl _) _).alloc (by simp) _
  refine ⟨w.heap.size + 1, [{ target := .collected w.heap.size, args := #[] }], W1, { target := .fn (.func gf) lb, args := #[.func (.yield (w.heap.size + 1)) #[] #[]] }, W1, gf,
    #[.func (.yield (w.heap.size + 1)) #[] #[]] ++ lb, W1, ?_, ?_, fun _ _ => trivial, ?_, fun h => by simp [Fence.wide] at h, ?_⟩
  · rw [← hW1, hrec]; exact run_enterLoop_outer _ _ _ _ _
  · simp only [resolve, hg]
    simp [go_sem]
  · simp [invoke, go_sem, eg]
  · refine (hseq (w.heap.size + 1) (fun pre W => I pre W ∧ W.heap[w.heap.size + 1]? = some (.loop (rec .ready none)) ∧ W.heap[w.heap.size]? = some (.deferred (some []))) W1 hb1
      (fun s A B hs hb => ⟨hI s A B none hs.1 ⟨hb.os, hb.tape, hb.output, hb.size, fun k hk _ => hb.block k hk⟩ (fun r e => by cases e), row_call hs.2.1 hb, row_call hs.2.2 hb⟩) ?_ ⟨hI1, hL1, hK1⟩).mono ?_
    · rintro pre x W ⟨hi, hl, hk⟩ hfact
      have hy := run_yield (P := P) (args := encs x) hl (by rw [hrec]; exact hps x)
      rw [hrec] at hy
      refine ⟨fn, _, assign, body, hy, roundIn_of_wpIn hfn (hassign _ pre x W _ hi hfact ?_)⟩
      clear hy
      intro a' Wa hkfa hkpa hia hfa hax
      replace hl := hkfa.same _ _ (by omega) hl rfl
      replace hk := hkfa.same _ _ (Nat.le_refl _) hk rfl
      have hlt : w.heap.size + 1 < Wa.heap.size := (Array.getElem?_eq_some_iff.1 hl).1
      refine ⟨_, run_beginRound hl (by rw [hrec]), ?_⟩
      obtain ⟨Wr, hWr⟩ : ∃ Wr, Wa.putObj (w.heap.size + 1) (.loop { rec .ready none with state := .busy }) = Wr := ⟨_, rfl⟩
      rw [hWr]
      have hl2 : Wr.heap[w.heap.size + 1]? = some (.loop { rec .ready none with state := .busy }) := by rw [← hWr]; exact World.putObj_heap_same hlt
      have hk2 : Wr.heap[w.heap.size]? = some (.deferred (some [])) := by rw [← hWr]; exact (World.putObj_heap_other (by omega)).trans hk
      have hw2 : Kp Wa Wr := by rw [← hWr]; exact hKb _ _ _ _ (by omega) hl rfl
      have hi2 : I pre Wr := by rw [← hWr]; exact hI.putObj _ hia (by omega) hl rfl
      have hf2 : Fact pre x Wr := by rw [← hWr]; exact (hF pre x).putObj (s := ()) _ hfa (by omega) hl rfl
      have ha2 : Ax x a' Wr := by rw [← hWr]; exact (hAx x a').putObj (s := ()) _ hax (by omega) hl rfl
      refine wpIn_mono (hbody _ pre x a' _ hi2 hf2 ha2) ?_
      rintro e a3 W3 hp
      cases e <;> try exact hp.elim
      obtain ⟨hk3, hkp3, hi3⟩ := hp
      have hl3 := hk3.same _ _ (by omega) hl2 rfl
      have hr := run_endRound (P := P) none hl3
      rw [hrec] at hr hl3
      refine ⟨_, _, hr, rfl, ⟨hI.putObj _ hi3 (by omega) hl3 rfl, ?_, ?_⟩, hKt hkpa (hKt (hKt hw2 hkp3) (hKb _ _ _ _ (by omega) hl3 rfl))⟩
      · rw [hrec]; exact World.putObj_heap_same (Array.getElem?_eq_some_iff.1 hl3).1
      · exact (World.putObj_heap_other (by omega)).trans (hk3.same _ _ (Nat.le_refl _) hk2 rfl)
    · rintro e W2 ⟨⟨v, rfl⟩, xs, ⟨hi, hl, hk⟩, hs⟩
      have hend := run_endLoop (P := P) hl (by rw [hrec]; simp)
      rw [hrec] at hend
      exact ⟨none, _, hend, hdone _ xs _ (Nat.le_refl _) (hS.putObj _ hs (by omega) hl rfl) (hI.putObj _ hi (by omega) hl rfl) ((World.putObj_heap_other (by omega)).trans hk)⟩
end

/-- What a loop's body keeps: all below n₀, and every block of cells whose type is not one of the two that the body writes. -/
def KeepB (n₀ : Nat) (t1 t2 : TypeId) (W W' : World) : Prop := Below n₀ W W' ∧ ∀ (k : Nat) (arr : Array Value) (t : TypeId) (fr : Nat × Nat), W.heap[k]? = some (Obj.cells arr t fr) → t ≠ t1 → t ≠ t2 → W'.heap[k]? = some (Obj.cells arr t fr)
section
variable {n₀ : Nat} {t1 t2 : TypeId} {W W' W'' : World}
theorem KeepB.refl (n₀ : Nat) (t1 t2 : TypeId) (W : World) : KeepB n₀ t1 t2 W W := ⟨Below.refl _ _, fun _ _ _ _ h _ _ => h⟩
theorem KeepB.trans (h : KeepB n₀ t1 t2 W W') (h' : KeepB n₀ t1 t2 W' W'') : KeepB n₀ t1 t2 W W'' := ⟨h.1.trans h'.1, fun k arr t fr hk h1 h2 => h'.2 k arr t fr (h.2 k arr t fr hk h1 h2) h1 h2⟩
theorem KeepB.of_below {K : Nat} (h : Below K W W') (hK : W.heap.size ≤ K) (hn : n₀ ≤ K) : KeepB n₀ t1 t2 W W' :=
  ⟨h.mono hn, fun k _ _ _ hk _ _ => (h.block k (Nat.lt_of_lt_of_le (Array.getElem?_eq_some_iff.1 hk).1 hK)).trans hk⟩
theorem KeepB.putObj {l : Nat} {o o' : Obj} (hn : n₀ ≤ l) (hl : W.heap[l]? = some o) (ho : o.isCells = false) : KeepB n₀ t1 t2 W (W.putObj l o') := by
  refine ⟨(Below.refl n₀ W).grown (grownBy_putObj' W l o') (by have := (Array.getElem?_eq_some_iff.1 hl).1; omega) (fun k e => by cases e; omega), fun k arr t fr hk _ _ => ?_⟩
  refine (World.putObj_heap_other (fun e => ?_)).trans hk
  subst e
  rw [hl] at hk
  injection hk with hk
  subst hk
  cases ho
theorem KeepB.setCell {p : Addr} {u : Value} {arr : Array Value} {t : TypeId} {fr : Nat × Nat} (hn : n₀ ≤ p.block) (hp : W.heap[p.block]? = some (.cells arr t fr)) (ht : t = t1 ∨ t = t2) : KeepB n₀ t1 t2 W (W.setCell p u) := by
  refine ⟨(Below.refl n₀ W).setCell hn u, fun k arr' t' fr' hk h1 h2 => ?_⟩
  refine (Below.heap_setCell _ _ _ _ (fun e => ?_)).trans hk
  subst e
  rw [hp] at hk
  injection hk with hk
  injection hk with _ e2 _
  subst e2
  rcases ht with ht | ht
  · exact h1 ht
  · exact h2 ht
theorem Ow.keepB {base sz : Nat} {e : TypeId} {v : Value} {xs : List Value} (h : Ow W base e sz v xs) (hb : KeepB n₀ t1 t2 W W') (h1 : e ≠ t1) (h2 : e ≠ t2) : Ow W' base e sz v xs := by
  obtain ⟨n, hl, h⟩ := h
  refine ⟨n, hl, ?_⟩
  rcases h with h | ⟨g, cap, cur, hv, hg, hh, r⟩
  · exact .inl h
  · exact .inr ⟨g, cap, cur, hv, hg, hb.2 g cur e _ hh h1 h2, r⟩
theorem SegO.keepB {base : Nat} {cs : Array Value} {s : Seg} (h : SegO W base cs s) (hb : KeepB n₀ t1 t2 W W') (h1 : 3 ≠ t1) (h2 : 3 ≠ t2) : SegO W' base cs s := by
  obtain ⟨A1, n1, c1, A2, n2, c2, A3, n3, c3, e, x, y, z⟩ := h
  exact ⟨A1, n1, c1, A2, n2, c2, A3, n3, c3, e, x.keepB hb h1 h2, y.keepB hb h1 h2, z.keepB hb h1 h2⟩
end

/-! ### A body that appends one element to a boxed slice. -/
theorem grown_cells {W W' : World} {row : Option Nat} (hg : W.grownBy W' row) (hr : ∀ r, row = some r → ∃ o : Obj, W.heap[r]? = some o ∧ o.isCells = false) {k : Nat} {arr : Array Value} {t : TypeId} {fr : Nat × Nat}
    (h : W.heap[k]? = some (.cells arr t fr)) : W'.heap[k]? = some (.cells arr t fr) := by
  refine (hg.block k (Array.getElem?_eq_some_iff.1 h).1 (fun e => ?_)).trans h
  obtain ⟨o, ho, hc⟩ := hr k e.symm
  rw [h] at ho
  injection ho with ho
  subst ho
  cases hc
theorem Ow.grown_cells {W W' : World} {row : Option Nat} {base sz : Nat} {e : TypeId} {v : Value} {xs : List Value} (h : Ow W base e sz v xs) (hg : W.grownBy W' row) (hr : ∀ r, row = some r → ∃ o : Obj, W.heap[r]? = some o ∧ o.isCells = false) : Ow W' base e sz v xs := by
  obtain ⟨n, hl, h⟩ := h
  refine ⟨n, hl, ?_⟩
  rcases h with h | ⟨g, cap, cur, hv, hgb, hh, r⟩
  · exact .inl h
  · exact .inr ⟨g, cap, cur, hv, hgb, Go.Sky.grown_cells hg hr hh, r⟩
theorem SegO.grown_cells {W W' : World} {row : Option Nat} {base : Nat} {cs : Array Value} {s : Seg} (h : SegO W base cs s) (hg : W.grownBy W' row) (hr : ∀ r, row = some r → ∃ o : Obj, W.heap[r]? = some o ∧ o.isCells = false) : SegO W' base cs s := by
  obtain ⟨A1, n1, c1, A2, n2, c2, A3, n3, c3, e, x, y, z⟩ := h
  exact ⟨A1, n1, c1, A2, n2, c2, A3, n3, c3, e, x.grown_cells hg hr, y.grown_cells hg hr, z.grown_cells hg hr⟩

theorem Ow.block {w : World} {base sz : Nat} {e : TypeId} {v : Value} {xs : List Value} (h : Ow w base e sz v xs) : ∀ g, v.ownBlock = some g → base ≤ g ∧ ∃ cur, w.heap[g]? = some (Obj.cells cur e (0, 0)) := by
  obtain ⟨n, _, h⟩ := h
  intro g hg
  rcases h with ⟨rfl, _⟩ | ⟨g', cap, cur, rfl, hb, hh, _⟩
  · simp [Value.ownBlock] at hg
  · have : g' = g := by simpa [Value.ownBlock] using hg
    subst this
    exact ⟨hb, cur, hh⟩

theorem wpListIn_app {F : Fence} {n : Nat} {P : Program} {w : World} {ops : Array Oper} {rest : List Oper} {o : Oper} {a : Act} {Q : Exit → Act → World → Prop} (hgd : o.guard = none) (s x : Operand) (t : TypeId)
    (ho : o.op = .call { callee := .builtin .append, args := #[s, x], argTypes := #[t, t] })
    {e : TypeId} {sz bytes : Nat} {z : Value} (hE : Elem P t e sz bytes z) (hby : bytes ≤ 128)
    (base : Nat) (v : Value) (xs : List Value) (hs : a.eval s = v) (hown : Ow w base e sz v xs)
    (b m c : Nat) (news : List Value) (hx : a.eval x = .slice (some ⟨b, 0, none⟩) m c) (hl : news.length = m * sz) (hnew : ∀ j u, news[j]? = some u → w.cell? ⟨b, j, none⟩ = some u) (h1 : ∀ u ∈ news, u.oneCell' = true)
    (hlen : xs.length + news.length ≤ 1099511627776) (hbase : base ≤ w.heap.size) (ys : List Value) (hys : ys = xs ++ news)
    (h : ∀ A k c' w', Ow w' base e sz (.slice A k c') ys → w.grownBy w' v.ownBlock → wpListIn F n P ops Q rest (a.put o.dst (.slice A k c')) w') : wpListIn F n P ops Q (o :: rest) a w := by
  obtain ⟨ht, hsz, hzs, i, hi0, hz, hsize, hb⟩ := hE
  obtain ⟨k, hrow⟩ := hown
  have hn1 : k ≤ xs.length := by rw [hrow.1]; exact Nat.le_mul_of_pos_right _ hsz
  have hm1 : m ≤ news.length := by rw [hl]; exact Nat.le_mul_of_pos_right _ hsz
  have hbd : (k + m) * bytes ≤ 1099511627776 * 128 := Nat.mul_le_mul (by omega) hby
  refine wpListIn_append_own w hgd s x t ho base e i z sz bytes ht hi0 hz hsize hb hzs hsz v k xs hs hrow ⟨b, 0, none⟩ m c news hx hl (fun j u hu => ?_) h1 (by simp only [maxLen]; omega) (by omega) hbase fun v' w' hown' hgr _ => ?_
  · have := hnew j u hu
    unfold Addr.add
    split
    · rename_i h0; subst h0; exact this
    · simpa using this
  · have ho' : Ow w' base e sz v' ys := ⟨k + m, hys ▸ hown'⟩
    obtain ⟨A, k', c', rfl, _⟩ := ho'.sl
    exact h A k' c' w' ho' hgr

/-- The round's end: the box holds the longer slice, and nothing but blocks of the two types has turned. -/
theorem round_app {W w1 : World} {n₀ base Bp sz : Nat} {tb e : TypeId} {v v' : Value} {xs ys : List Value} (hte : tb ≠ e) (hbox : W.heap[Bp]? = some (.cells #[v] tb (0, 0))) (hrow : Ow W base e sz v xs)
    (hg : W.grownBy w1 v.ownBlock) (hown : Ow w1 base e sz v' ys) (hn : n₀ ≤ base) (hb : base ≤ Bp) :
    w1.heap[Bp]? = some (.cells #[v] tb (0, 0)) ∧ (w1.setCell ⟨Bp, 0, none⟩ v').heap[Bp]? = some (.cells #[v'] tb (0, 0)) ∧ Ow (w1.setCell ⟨Bp, 0, none⟩ v') base e sz v' ys ∧ KeepsOthers W (w1.setCell ⟨Bp, 0, none⟩ v') ∧ KeepB n₀ tb e W (w1.setCell ⟨Bp, 0, none⟩ v') := by
  have hlt : Bp < W.heap.size := (Array.getElem?_eq_some_iff.1 hbox).1
  have hrb := hrow.block
  have hne : some Bp ≠ v.ownBlock := fun h => by
    obtain ⟨_, cur, hc⟩ := hrb Bp h.symm
    rw [hbox] at hc
    injection hc with hc
    injection hc with _ h2 _
    exact hte h2
  have hbox1 := (hg.block Bp hlt hne).trans hbox
  have hset : (w1.setCell ⟨Bp, 0, none⟩ v').heap[Bp]? = some (.cells #[v'] tb (0, 0)) := row_set hbox1 0 v'
  have hk1 : KeepB n₀ tb e W w1 := by
    refine ⟨(Below.refl n₀ W).grown hg (by omega) (fun k hk => by have := (hrb k hk).1; omega), fun k arr t fr hk h1 h2 => ?_⟩
    refine (hg.block k (Array.getElem?_eq_some_iff.1 hk).1 (fun h => ?_)).trans hk
    obtain ⟨_, cur, hc⟩ := hrb k h.symm
    rw [hk] at hc
    injection hc with hc
    injection hc with _ h2' _
    exact h2 h2'
  refine ⟨hbox1, hset, ?_, ?_, hk1.trans (KeepB.setCell (p := ⟨Bp, 0, none⟩) (by simp; omega) hbox1 (.inl rfl))⟩
  · obtain ⟨n, hl, h⟩ := hown
    refine ⟨n, hl, ?_⟩
    rcases h with h | ⟨g, cap, cur, hv, hgb, hh, r⟩
    · exact .inl h
    · refine .inr ⟨g, cap, cur, hv, hgb, ?_, r⟩
      rw [Below.heap_setCell _ _ _ _ (fun h => ?_)]
      · exact hh
      · simp only at h
        subst h
        rw [hbox1] at hh
        injection hh with hh
        injection hh with _ h2 _
        exact hte h2
  · refine (KeepsOthers.of_grownBy hg fun j o hj ho => ?_).trans (KeepsOthers.setCell _ _ _)
    obtain ⟨_, cur, hc⟩ := hrb j hj
    rw [hc] at ho
    injection ho with ho
    subst ho
    rfl

end Go.Sky
