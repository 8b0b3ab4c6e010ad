/-
  More steps of a drawn region inside a fence: an operation that is not wanted, and 'append' to the call's own slice.
  Conditions: those that each theorem states.
-/
import Derived.Test.YtkajnimlfehmeaaSkyRange
set_option linter.unusedSimpArgs false
set_option linter.unusedVariables false
namespace Go.Sky
open Go.RowKit

section
variable {F : Fence} {n : Nat} {P : Program} {ops : Array Oper} {Q : Exit → Act → World → Prop} {md : Region.Mode} {S : World → Prop}

/-- The operation itself, in plain sight. -/
theorem op_at {i : Nat} {oi : Oper} {rest : List Oper} (h : ops.toList.drop i = oi :: rest) : ops[i]? = some oi := by
  have h2 := congrArg (fun l => l[0]?) h
  simpa using h2

/-- An operation whose guard does not hold. -/
theorem anyS_skip {i : Nat} {oi : Oper} {rest : List Oper} {k : Nat} {listed : Array Bool} {a : Act} {w : World} (hc : Plain0 F ops) (hi0 : ops.toList.drop i = oi :: rest)
    (hs : Region.noSelect ops = true) (hf : Region.free md ops listed i = true) (hr : (Region.ready md ops listed).contains i = true)
    (hQ : ∀ c a w, Q (.panic c) (a.put oi.dst undef) w → Q (.panic c) a w) (hS : S w) (hab : ∀ w, oi.about P w a.eval = none) (hw : Region.wanted oi (yielded ops a.tmps) = false)
    (h : anyS F n P md ops Q S k (listed.setIfInBounds i true) (a.put oi.dst undef) w) : anyS F n P md ops Q S (k + 1) listed a w :=
  anyS_first hc (op_at hi0) (Region.noSelect_spec hs) hQ k listed a w (Region.free_spec (op_at hi0) hf) (by simpa using hr) ⟨.inr ⟨hw, rfl⟩, hab⟩ hS h

theorem anyS_take2 {i : Nat} {oi : Oper} {rest : List Oper} {v : Value} {k : Nat} {listed : Array Bool} {a : Act} {w : World} (hc : Plain0 F ops) (hi : ops.toList.drop i = oi :: rest)
    (hs : Region.noSelect ops = true) (hf : Region.free md ops listed i = true) (hr : (Region.ready md ops listed).contains i = true)
    (hQ : ∀ c a w, Q (.panic c) (a.put oi.dst v) w → Q (.panic c) a w) (hS : S w) (hab : ∀ w, oi.about P w a.eval = none) (hw : Region.wanted oi (yielded ops a.tmps) = true)
    (hv : ∀ w, S w → (execOp a.eval oi).run P w = .ok (.value v) w)
    (h : anyS F n P md ops Q S k (listed.setIfInBounds i true) (a.put oi.dst v) w) : anyS F n P md ops Q S (k + 1) listed a w := anyS_take hc (op_at hi) hs hf hr hQ hS hab hw hv h

theorem anyS_one2 {i : Nat} {oi : Oper} {rest : List Oper} {k : Nat} {listed : Array Bool} {a : Act} {w : World} (hi : ops.toList.drop i = oi :: rest) (hr : Region.ready md ops listed = [i]) (hw : Region.wanted oi (yielded ops a.tmps) = true)
    (h : ∀ K : Act → World → Prop, (∀ a w, S w → anyS F n P md ops Q S k (listed.setIfInBounds i true) a w → K a w) → oi.wpIn F n P a w K Q) : anyS F n P md ops Q S (k + 1) listed a w :=
  anyS_one (op_at hi) hr fun K hK => by rw [if_pos hw]; exact h K hK

/-- Either of two operations may come up. -/
theorem anyS_two {i j : Nat} {oi oj : Oper} {rest rest' : List Oper} {k : Nat} {listed : Array Bool} {a : Act} {w : World} (hi : ops.toList.drop i = oi :: rest) (hj : ops.toList.drop j = oj :: rest') (hr : Region.ready md ops listed = [i, j])
    (hwi : Region.wanted oi (yielded ops a.tmps) = true) (hwj : Region.wanted oj (yielded ops a.tmps) = true)
    (h1 : ∀ K : Act → World → Prop, (∀ a w, S w → anyS F n P md ops Q S k (listed.setIfInBounds i true) a w → K a w) → oi.wpIn F n P a w K Q)
    (h2 : ∀ K : Act → World → Prop, (∀ a w, S w → anyS F n P md ops Q S k (listed.setIfInBounds j true) a w → K a w) → oj.wpIn F n P a w K Q) : anyS F n P md ops Q S (k + 1) listed a w := by
  refine ⟨fun h0 => absurd (h0.symm.trans hr) (by simp), fun m hm => ?_⟩
  rw [hr] at hm
  rcases List.mem_cons.1 hm with rfl | hm
  · exact wpOpIn_step (op_at hi) fun K' hK' => by rw [if_pos hwi]; exact h1 K' fun a w hS h' => hK' a w ⟨hS, h'⟩
  · obtain rfl : m = j := by simpa using hm
    exact wpOpIn_step (op_at hj) fun K' hK' => by rw [if_pos hwj]; exact h2 K' fun a w hS h' => hK' a w ⟨hS, h'⟩

/-- A drawn region cut off from what follows: behind it 'Rel' holds, and what follows is shown from 'Rel' alone. -/
theorem region_opaque {id : Nat} {a : Act} {w : World} (S : World → Prop) (Rel : Act → World → Prop) (hm : P.follows .mixedOrders = true) (hQp : ∀ c a d v w, Q (.panic c) (Act.put a d v) w → Q (.panic c) a w)
    (h : ∀ Q' : Exit → Act → World → Prop, (∀ c a d v w, Q' (.panic c) (Act.put a d v) w → Q' (.panic c) a w) → (∀ a w, Rel a w → Q' .normal a w) → anyS F n P .any ops Q' S ops.size (Array.replicate ops.size false) a w.drew)
    (hfin : ∀ a w, Rel a w → Q .normal a w) : (Code.region id ops true).wpIn F n P Q a w := region_anyS hm (h Q hQp hfin)

/-- 'append' to a slice that is nil or the call's own, at the operation. -/
theorem opIn_app {w : World} {o : Oper} {a : Act} {K : Act → World → Prop} (s x : Operand) (t : TypeId)
    (ho : o.op = .call { callee := .builtin .append, args := #[s, x], argTypes := #[t, t] })
    {e : TypeId} {sz bytes : Nat} {z : Value} (hE : Elem P t e sz bytes z) (hby : bytes ≤ 128)
    (base : Nat) (v : Value) (xs : List Value) (hs : a.eval s = v) (hown : Ow w base e sz v xs)
    (b m c : Nat) (news : List Value) (hx : a.eval x = .slice (some ⟨b, 0, none⟩) m c) (hl : news.length = m * sz) (hnew : ∀ j u, news[j]? = some u → w.cell? ⟨b, j, none⟩ = some u) (h1 : ∀ u ∈ news, u.oneCell' = true)
    (hlen : xs.length + news.length ≤ 1099511627776) (hbase : base ≤ w.heap.size) (ys : List Value) (hys : ys = xs ++ news)
    (h : ∀ A k c' w', Ow w' base e sz (.slice A k c') ys → w.grownBy w' v.ownBlock → K (a.put o.dst (.slice A k c')) w') : o.wpIn F n P a w K Q := by
  obtain ⟨ht, hsz, hzs, i, hi0, hz, hsize, hb⟩ := hE
  obtain ⟨k, hrow⟩ := hown
  have hn1 : k ≤ xs.length := by rw [hrow.1]; exact Nat.le_mul_of_pos_right _ hsz
  have hm1 : m ≤ news.length := by rw [hl]; exact Nat.le_mul_of_pos_right _ hsz
  have hbd : (k + m) * bytes ≤ 1099511627776 * 128 := Nat.mul_le_mul (by omega) hby
  obtain ⟨v', w', hrun, hown', hgr, _⟩ := run_append_own (P := P) w base t o.type e i z sz bytes ht hi0 hz hsize hb hzs hsz v k xs hrow ⟨b, 0, none⟩ m c news hl (fun j u hu => by
    have := hnew j u hu
    unfold Addr.add
    split
    · rename_i h0; subst h0; exact this
    · simpa using this) h1 (by simp only [maxLen]; omega) (by omega) hbase
  have ho' : Ow w' base e sz v' ys := ⟨k + m, hys ▸ hown'⟩
  obtain ⟨A, k', c', rfl, _⟩ := ho'.sl
  unfold Oper.wpIn
  refine ⟨?_, ?_⟩
  · simp [Oper.about, ho, resolve, Target.leads, Sem.run_pure]
  · rw [Oper.semAt_plain F _ _ (by rw [ho]; intro c hc'; cases hc')]
    simp [execOp, ho, resolve, invoke, builtin, hs, hx, hrun, Result.andThen]
    exact h A k' c' w' ho' hgr

/-- What an append to the call's own slice leaves alone. -/
theorem Ow.grown_keepB {W w1 : World} {n₀ base sz : Nat} {tb e : TypeId} {v : Value} {xs : List Value} (hrow : Ow W base e sz v xs) (hg : W.grownBy w1 v.ownBlock) (hn : n₀ ≤ base) (hb : n₀ ≤ W.heap.size) : KeepB n₀ tb e W w1 := by
  have hrb := hrow.block
  refine ⟨(Below.refl n₀ W).grown hg hb (fun k hk => by have := (hrb k hk).1; omega), fun k arr t fr hk h1 h2 => ?_⟩
  refine (hg.block k (Array.getElem?_eq_some_iff.1 hk).1 (fun h => ?_)).trans hk
  obtain ⟨_, cur, hc⟩ := hrb k h.symm
  rw [hk] at hc
  injection hc with hc
  injection hc with _ h2' _
  exact h2 h2'
end
end Go.Sky
