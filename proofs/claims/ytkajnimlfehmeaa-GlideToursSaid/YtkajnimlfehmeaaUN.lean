/-
  Regions: every schedule comes to the same.
-/
import Derived.Test.YtkajnimlfehmeaaUM
set_option linter.unusedSimpArgs false
set_option linter.unusedVariables false
namespace Go.Vl
open Go.RowKit

/-- Runs in an order. -/
inductive RunL (P : Program) (tb : Tab) (ops : Array Oper) (base : Nat) (recs : Nat → Rec) : List Nat → St → St → Prop
  | nil (s : St) : RunL P tb ops base recs [] s s
  | cons (i : Nat) (l : List Nat) (s s' : St) (o : Oper) (ho : ops[i]? = some o) (h : OpRun P tb ops s (base + i) o (recs i)) (t : RunL P tb ops base recs l ((recs i).on o.dst s) s') : RunL P tb ops base recs (i :: l) s s'

section
variable {P : Program} {tb : Tab} {ops : Array Oper} {base : Nat} {recs : Nat → Rec}

def ApartAt (ops : Array Oper) (recs : Nat → Rec) (k i : Nat) : Prop := ∀ ok oi, ops[k]? = some ok → ops[i]? = some oi → Apart ops ok oi (recs k).acc (recs i).acc

theorem RunL.pull : ∀ {pre : List Nat} {i : Nat} {post : List Nat} {s s' : St}, RunL P tb ops base recs (pre ++ i :: post) s s' → (∀ k ∈ pre, ApartAt ops recs k i) → RunL P tb ops base recs (i :: (pre ++ post)) s s'
  | [], _, _, _, _, h, _ => h
  | k :: pre, i, post, s, s', h, ha => by
    cases h with
    | cons _ _ _ _ ok hok hk t =>
      have ih := RunL.pull t fun x hx => ha x (by simp [hx])
      cases ih with
      | cons _ _ _ _ oi hoi hi t' =>
        obtain ⟨h1, h2, h3⟩ := swap hk hi (ha k (by simp) ok oi hok hoi)
        exact .cons i _ s s' oi hoi h1 (.cons k _ _ _ ok hok h2 (by rw [← h3]; exact t'))

/-! ### what is before what -/
def cloStep (ms : List Nat) (o : Oper) : Nat := o.after.toList.foldl (fun m e => if Region.binds .any e then (m ||| 2 ^ e.on) ||| ms.getD e.on 0 else m) 0
def cloL : List Oper → List Nat → List Nat
  | [], ms => ms
  | o :: rest, ms => cloL rest (ms ++ [cloStep ms o])

theorem cloL_keeps : ∀ (os : List Oper) (ms : List Nat) (j : Nat), j < ms.length → (cloL os ms)[j]? = ms[j]?
  | [], _, _, _ => rfl
  | o :: os, ms, j, h => by
    rw [cloL, cloL_keeps os _ j (by simp; omega), List.getElem?_append_left h]

theorem cloL_get : ∀ (os : List Oper) (ms : List Nat) (j : Nat) (o : Oper), os[j]? = some o → ∃ ms', (cloL os ms)[ms.length + j]? = some (cloStep ms' o) ∧ (∀ k, k < ms.length + j → ms'[k]? = (cloL os ms)[k]?) ∧ ms'.length = ms.length + j
  | [], _, _, _, h => by simp at h
  | o :: os, ms, 0, o', h => by
    simp at h
    subst h
    refine ⟨ms, ?_, ?_, rfl⟩
    · rw [cloL, cloL_keeps os _ _ (by simp)]; simp
    · intro k hk
      rw [cloL, cloL_keeps os _ _ (by simp; omega), List.getElem?_append_left hk]
  | o :: os, ms, j + 1, o', h => by
    obtain ⟨ms', h1, h2, h3⟩ := cloL_get os (ms ++ [cloStep ms o]) j o' (by simpa using h)
    have e : (ms ++ [cloStep ms o]).length + j = ms.length + (j + 1) := by simp; omega
    rw [e] at h1 h2 h3
    exact ⟨ms', h1, h2, h3⟩

theorem cloStep_bit {ms : List Nat} {o : Oper} {k : Nat} (h : (cloStep ms o).testBit k = true) : ∃ e ∈ o.after.toList, Region.binds .any e = true ∧ (e.on = k ∨ (ms.getD e.on 0).testBit k = true) := by
  have key : ∀ (l : List Edge) (m : Nat), (l.foldl (fun m e => if Region.binds .any e then (m ||| 2 ^ e.on) ||| ms.getD e.on 0 else m) m).testBit k = true →
      m.testBit k = true ∨ ∃ e ∈ l, Region.binds .any e = true ∧ (e.on = k ∨ (ms.getD e.on 0).testBit k = true) := by
    intro l
    induction l with
    | nil => intro m h; exact .inl h
    | cons e l ih =>
      intro m h
      rw [List.foldl_cons] at h
      rcases ih _ h with h' | ⟨e', he', h'⟩
      · by_cases hb : Region.binds .any e = true
        · rw [if_pos hb, Nat.testBit_or, Nat.testBit_or, Bool.or_eq_true, Bool.or_eq_true, Nat.testBit_two_pow] at h'
          rcases h' with (h' | h') | h'
          · exact .inl h'
          · exact .inr ⟨e, by simp, hb, .inl (by simpa using h')⟩
          · exact .inr ⟨e, by simp, hb, .inr h'⟩
        · rw [if_neg hb] at h'; exact .inl h'
      · exact .inr ⟨e', by simp [he'], h'⟩
  rcases key _ 0 h with h | h
  · simp at h
  · exact h

def DownClosed (ops : Array Oper) (listed : Array Bool) : Prop := ∀ i o, listed.getD i true = true → ops[i]? = some o → ∀ e ∈ o.after.toList, Region.binds .any e = true → listed.getD e.on false = true

/-- Whatever is before a ready operation has been done. -/
theorem clo_listed {listed : Array Bool} (hs : listed.size = ops.size) (hd : DownClosed ops listed) (hlt : ∀ i o, ops[i]? = some o → ∀ e ∈ o.after.toList, Region.binds .any e = true → e.on < i) :
    ∀ (i : Nat) (o : Oper), ops[i]? = some o → (∀ e ∈ o.after.toList, Region.binds .any e = true → listed.getD e.on false = true) → ∀ k, ((cloL ops.toList []).getD i 0).testBit k = true → listed.getD k false = true := by
  intro i
  induction i using Nat.strongRecOn with
  | _ i ih =>
    intro o ho hdeps k hk
    obtain ⟨ms', h1, h2, h3⟩ := cloL_get ops.toList [] i o (by simpa using ho)
    simp only [List.length_nil, Nat.zero_add] at h1 h2 h3
    rw [List.getD_eq_getElem?_getD, h1, Option.getD_some] at hk
    obtain ⟨e, he, hb, hk⟩ := cloStep_bit hk
    rcases hk with rfl | hk
    · exact hdeps e he hb
    · have hei := hlt i o ho e he hb
      rw [List.getD_eq_getElem?_getD, h2 _ hei, ← List.getD_eq_getElem?_getD] at hk
      have hin : i < ops.size := (Array.getElem?_eq_some_iff.1 ho).1
      have hoe : ops[e.on]? = some ops[e.on] := Array.getElem?_eq_getElem (by omega)
      have hle := hdeps e he hb
      refine ih e.on hei ops[e.on] hoe (hd e.on _ ?_ hoe) k hk
      have : e.on < listed.size := by omega
      simp only [Array.getD, this, dif_pos] at hle ⊢
      exact hle

def remaining (ops : Array Oper) (listed : Array Bool) : List Nat := (List.range ops.size).filter fun i => !listed.getD i true

theorem getD_set (listed : Array Bool) (i k : Nat) (h : i < listed.size) (d : Bool) : (listed.setIfInBounds i true).getD k d = if k = i then true else listed.getD k d := by
  by_cases hk : k = i
  · subst hk; simp [Array.getD, h]
  · simp only [hk, if_false]
    have hne : ¬ i = k := fun e => hk e.symm
    by_cases hb : k < listed.size
    · simp [Array.getD, hb, Array.getElem_setIfInBounds, hne]
    · simp [Array.getD, hb]

theorem remaining_set {listed : Array Bool} (hs : listed.size = ops.size) {i : Nat} {pre post : List Nat} (hi : i < ops.size) (hr : remaining ops listed = pre ++ i :: post) :
    remaining ops (listed.setIfInBounds i true) = pre ++ post ∧ (∀ k ∈ pre, k < i) := by
  have hpw : (remaining ops listed).Pairwise (· < ·) := List.Pairwise.filter _ (List.pairwise_lt_range)
  rw [hr] at hpw
  obtain ⟨p1, p2, p3⟩ := List.pairwise_append.1 hpw
  obtain ⟨p4, p5⟩ := List.pairwise_cons.1 p2
  have hpre : ∀ k ∈ pre, k < i := fun k hk => p3 k hk i (by simp)
  refine ⟨?_, hpre⟩
  have e1 : remaining ops (listed.setIfInBounds i true) = (remaining ops listed).filter fun k => !(k == i) := by
    simp only [remaining, List.filter_filter]
    apply List.filter_congr
    intro k _
    rw [getD_set listed i k (by omega)]
    by_cases hk : k = i
    · simp [hk]
    · simp [hk]
  rw [e1, hr, List.filter_append, List.filter_cons]
  simp only [beq_self_eq_true, Bool.not_true, Bool.false_eq_true, if_false]
  congr 1
  · exact List.filter_eq_self.2 fun k hk => by have := hpre k hk; simp; omega
  · exact List.filter_eq_self.2 fun k hk => by have := p4 k hk; simp; omega

theorem run_sched (hlt : ∀ i o, ops[i]? = some o → ∀ e ∈ o.after.toList, Region.binds .any e = true → e.on < i)
    (hap : ∀ k i, k < i → i < ops.size → ((cloL ops.toList []).getD i 0).testBit k = false → ApartAt ops recs k i) :
    ∀ (fuel t : Nat) (listed : Array Bool) (s s' : St), listed.size = ops.size → DownClosed ops listed → (remaining ops listed).length ≤ fuel → RunL P tb ops base recs (remaining ops listed) s s' →
      RunL P tb ops base recs (Region.linearise.go .any ops fuel t listed []) s s' := by
  intro fuel
  induction fuel with
  | zero =>
    intro t listed s s' _ _ hf h
    have : remaining ops listed = [] := List.length_eq_zero_iff.1 (by omega)
    rw [this] at h
    simpa [Region.linearise.go] using h
  | succ fuel ih =>
    intro t listed s s' hs hd hf h
    simp only [Region.linearise.go]
    change RunL P tb ops base recs (match (Region.ready .any ops listed)[t % (Region.ready .any ops listed).length]? with
      | some i => Region.linearise.go .any ops fuel (t / (Region.ready .any ops listed).length) (listed.setIfInBounds i true) [i]
      | none => [].reverse) s s'
    cases hi : (Region.ready .any ops listed)[t % (Region.ready .any ops listed).length]? with
    | none =>
      have hnil : Region.ready .any ops listed = [] := by
        cases hr : Region.ready .any ops listed with
        | nil => rfl
        | cons x xs =>
          rw [hr] at hi
          have hlt' : t % (x :: xs).length < (x :: xs).length := Nat.mod_lt _ (by simp)
          rw [List.getElem?_eq_none_iff] at hi
          omega
      -- then nothing remains
      cases hrem : remaining ops listed with
      | nil => rw [hrem] at h; simpa using h
      | cons i0 rest =>
        exfalso
        have hi0 : i0 ∈ remaining ops listed := by rw [hrem]; simp
        have hmem := List.mem_filter.1 hi0
        have hi0n : i0 < ops.size := List.mem_range.1 hmem.1
        have : i0 ∈ Region.ready .any ops listed := by
          refine List.mem_filter.2 ⟨hmem.1, ?_⟩
          have hoi : ops[i0]? = some ops[i0] := Array.getElem?_eq_getElem hi0n
          simp only [Bool.and_eq_true, hoi, Option.map_some, Option.getD_some, hmem.2, true_and, Array.all_eq_true', Bool.or_eq_true, Bool.not_eq_true']
          intro e he
          by_cases hb : Region.binds .any e = true
          · right
            have hei := hlt i0 _ hoi e (by simpa using he) hb
            rcases hl : listed.getD e.on true with _ | _
            · -- e.on would remain, before i0
              exfalso
              have hin : e.on ∈ remaining ops listed := List.mem_filter.2 ⟨List.mem_range.2 (by omega), by simp [hl]⟩
              have hpw : (remaining ops listed).Pairwise (· < ·) := List.Pairwise.filter _ (List.pairwise_lt_range)
              rw [hrem] at hpw hin
              rcases List.mem_cons.1 hin with x | x
              · omega
              · have := (List.pairwise_cons.1 hpw).1 _ x; omega
            · have : e.on < listed.size := by omega
              simp only [Array.getD, this, dif_pos] at hl ⊢
              exact hl
          · left; simpa using hb
        rw [hnil] at this
        simp at this
    | some i =>
      simp only []
      rw [linearise_go_acc, List.reverse_singleton, List.singleton_append]
      have himem : i ∈ Region.ready .any ops listed := List.mem_of_getElem? hi
      obtain ⟨hir, hic⟩ := List.mem_filter.1 himem
      have hin : i < ops.size := List.mem_range.1 hir
      have hoi : ops[i]? = some ops[i] := Array.getElem?_eq_getElem hin
      simp only [Bool.and_eq_true, hoi, Option.map_some, Option.getD_some, Array.all_eq_true', Bool.or_eq_true, Bool.not_eq_true'] at hic
      have hdeps : ∀ e ∈ ops[i].after.toList, Region.binds .any e = true → listed.getD e.on false = true := by
        intro e he hb
        rcases hic.2 e (by simpa using he) with x | x
        · rw [hb] at x; cases x
        · exact x
      have hrem : i ∈ remaining ops listed := List.mem_filter.2 ⟨hir, by simp [hic.1]⟩
      obtain ⟨pre, post, hsplit⟩ := List.append_of_mem hrem
      obtain ⟨e1, e2⟩ := remaining_set hs hin hsplit
      rw [hsplit] at h
      have hpull := h.pull fun k hk => by
        refine hap k i (e2 k hk) hin ?_
        cases hb : ((cloL ops.toList []).getD i 0).testBit k with
        | false => rfl
        | true =>
          have hl := clo_listed hs hd hlt i _ hoi hdeps k hb
          have hkr : k ∈ remaining ops listed := by rw [hsplit]; simp [hk]
          have hkf := (List.mem_filter.1 hkr).2
          have hkn : k < ops.size := List.mem_range.1 (List.mem_filter.1 hkr).1
          have : k < listed.size := by omega
          simp only [Array.getD, this, dif_pos, Bool.not_eq_true'] at hl hkf
          rw [hl] at hkf; cases hkf
      cases hpull with
      | cons _ _ _ _ o ho hrun ht =>
        refine .cons i _ s s' o ho hrun (ih _ _ _ _ (by simpa using hs) ?_ ?_ (by rw [e1]; exact ht))
        · intro j o' hj ho' e he hb
          rw [getD_set listed i e.on (by omega)]
          rw [getD_set listed i j (by omega)] at hj
          by_cases hji : j = i
          · subst hji
            rw [hoi] at ho'; cases ho'
            rw [hdeps e he hb]; simp
          · simp only [hji, if_false] at hj
            rw [hd j o' hj ho' e he hb]; simp
        · rw [e1]
          have := congrArg List.length hsplit
          simp at this ⊢
          omega

end

/-! ### in the world -/
section
variable {C : Ctx} {tb : Tab} {rd : Option Nat} {ops : Array Oper} {base : Nat} {recs : Nat → Rec} {Q : Exit → Act → World → Prop}

theorem runL_wp (hL : base + ops.size ≤ LENT) (hd : ∀ (i : Nat) (o : Oper), ops[i]? = some o → ∀ t, o.dst = some t → t < C.nt) : ∀ {l : List Nat} {s s' : St} {a : Act} {w : World}, RunL C.P tb ops base recs l s s' → Rel C s a w → (∀ a' w', Rel C s' a' w' → Q .normal a' w') →
    wpOpsIn (FW rd) 0 C.P ops Q l a w
  | [], s, s', a, w, h, hr, hQ => by cases h; exact hQ a w hr
  | i :: l, s, s', a, w, h, hr, hQ => by
    cases h with
    | cons _ _ _ _ o ho hrun t =>
      have hi : i < ops.size := (Array.getElem?_eq_some_iff.1 ho).1
      have := oper_sim (rd := rd) (K := wpOpsIn (FW rd) 0 C.P ops Q l) (Q := Q) hr hrun (by omega) (hd i o ho) fun a' w' hr' => runL_wp hL hd t hr' hQ
      simp only [wpOpsIn, ho]
      exact this

theorem Rel.drew {s : St} {a : Act} {w : World} (h : Rel C s a w) : Rel C s a { w with drawn := w.drawn + 1 } := by
  obtain ⟨ρ, im, h⟩ := h
  exact ⟨ρ, im, h.world (w' := w.drew) (.of_below ((Below.refl _ _).drew)) ⟨fun _ _ _ => rfl, fun _ cur _ x => ⟨cur, x, rfl⟩, fun _ _ x _ => x⟩ fun _ _ _ _ _ _ => rfl⟩

/-- What is asked of a region that draws its order. -/
def drawOk (ops : Array Oper) (accs : List Acc) : Bool :=
  let clo := cloL ops.toList []
  (ops.toList.zipIdx.all fun (o, i) => o.after.toList.all fun e => !Region.binds .any e || decide (e.on < i)) &&
  (ops.toList.zipIdx.all fun (oi, i) => (ops.toList.zipIdx.take i).all fun (ok, k) => (clo.getD i 0).testBit k || apartB ops ok oi (accs.getD k []) (accs.getD i []))

theorem drawOk_spec {accs : List Acc} (h : drawOk ops accs = true) (hrec : ∀ i, i < ops.size → (recs i).acc = accs.getD i []) :
    (∀ i o, ops[i]? = some o → ∀ e ∈ o.after.toList, Region.binds .any e = true → e.on < i) ∧
    (∀ k i, k < i → i < ops.size → ((cloL ops.toList []).getD i 0).testBit k = false → ApartAt ops recs k i) := by
  simp only [drawOk, Bool.and_eq_true, List.all_eq_true] at h
  obtain ⟨h1, h2⟩ := h
  refine ⟨?_, ?_⟩
  · intro i o ho e he hb
    have := h1 (o, i) (by rw [List.mem_zipIdx_iff_getElem?]; simpa using ho) e he
    simpa [hb] using this
  · intro k i hki hi hbit ok oi hok hoi
    have := h2 (oi, i) (by rw [List.mem_zipIdx_iff_getElem?]; simpa using hoi) (ok, k) (by
      rw [List.mem_iff_getElem?]
      refine ⟨k, ?_⟩
      rw [List.getElem?_take_of_lt hki, List.getElem?_zipIdx]
      simp [hok])
    simp only [hbit, Bool.false_or] at this
    rw [hrec k (by omega), hrec i hi]
    exact apartB_spec this

theorem remaining_all : remaining ops (Array.replicate ops.size false) = List.range ops.size := by
  simp only [remaining]
  exact List.filter_eq_self.2 fun i hi => by
    have : i < ops.size := List.mem_range.1 hi
    simp [Array.getD, this]

theorem region_wp {id : Nat} {draw : Bool} {s s' : St} {a : Act} {w : World} (hm : C.P.follows .mixedOrders = true) (hL : base + ops.size ≤ LENT) (hd : ∀ (i : Nat) (o : Oper), ops[i]? = some o → ∀ t, o.dst = some t → t < C.nt)
    (h : RunL C.P tb ops base recs (List.range ops.size) s s') (hr : Rel C s a w) {accs : List Acc} (hacc : ∀ i, i < ops.size → (recs i).acc = accs.getD i []) (hdraw : draw = true → drawOk ops accs = true)
    (hQ : ∀ a' w', Rel C s' a' w' → Q .normal a' w') : (Code.region id ops draw).wpIn (FW rd) 0 C.P Q a w := by
  cases draw with
  | false => exact wpIn_region (runL_wp hL hd h hr hQ)
  | true =>
    refine wpIn_region_draw fun t => ?_
    obtain ⟨h1, h2⟩ := drawOk_spec (hdraw rfl) hacc
    simp only [Region.schedule, hm, Bool.true_or, if_true]
    refine runL_wp (tb := tb) (base := base) (recs := recs) hL hd (run_sched (base := base) (recs := recs) h1 h2 ops.size t _ s s' (by simp) ?_ ?_ ?_) hr.drew hQ
    · intro i o hi ho
      have hin : i < ops.size := (Array.getElem?_eq_some_iff.1 ho).1
      simp [Array.getD, hin] at hi
    · rw [remaining_all]; simp
    · rw [remaining_all]; exact h

end
end Go.Vl
