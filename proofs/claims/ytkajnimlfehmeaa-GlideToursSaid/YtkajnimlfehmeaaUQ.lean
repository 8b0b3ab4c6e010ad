/-
  A run of a function at values that are known, by the kernel.
-/
import Derived.Test.YtkajnimlfehmeaaUP
import Derived.IntWalk
set_option linter.unusedSimpArgs false
set_option linter.unusedVariables false
namespace Go.Vl

abbrev Vars := List (Nat × PV)
abbrev BoxL := List (Nat × Box)

def insL {α : Type} : List (Nat × α) → Nat → α → List (Nat × α)
  | [], k, v => [(k, v)]
  | (j, x) :: l, k, v => match Nat.beq j k with
    | true => (k, v) :: l
    | false => (j, x) :: insL l k v

theorem insL_lkp {α : Type} : ∀ (l : List (Nat × α)) (k : Nat) (v : α), lkp (insL l k v) = upd (lkp l) k (some v)
  | [], k, v => by funext j; simp [insL, lkp, upd]
  | (i, x) :: l, k, v => by
    funext j
    have ih := congrFun (insL_lkp l k v) j
    simp only [insL]
    cases h : Nat.beq i k with
    | true =>
      have := Nat.eq_of_beq_eq_true h
      subst this
      simp only [lkp, upd]
      split <;> simp_all
    | false =>
      have hne : ¬ i = k := fun e => by subst e; simp [Nat.beq_refl] at h
      simp only [lkp, upd, ih]
      by_cases e1 : j = i <;> by_cases e2 : j = k <;> simp_all

/-! ### values are worked out before they go on -/
noncomputable def frcN {α : Type} (n : Nat) (k : Nat → α) : α := @Nat.rec (fun _ => α) (k 0) (fun m _ => k (Nat.succ m)) n
theorem frcN_eq {α : Type} (n : Nat) (k : Nat → α) : frcN n k = k n := by cases n <;> rfl
noncomputable def frcI {α : Type} (n : Int) (k : Int → α) : α := @Int.rec (fun _ => α) (fun m => frcN m fun m => k (.ofNat m)) (fun m => frcN m fun m => k (.negSucc m)) n
theorem frcI_eq {α : Type} (n : Int) (k : Int → α) : frcI n k = k n := by cases n <;> simp [frcI, frcN_eq]
noncomputable def frcB {α : Type} (b : Bool) (k : Bool → α) : α := @Bool.rec (fun _ => α) (k false) (k true) b
theorem frcB_eq {α : Type} (b : Bool) (k : Bool → α) : frcB b k = k b := by cases b <;> rfl
noncomputable def frcL {α β : Type} (f : β → (β → α) → α) (l : List β) : (List β → α) → α :=
  @List.rec β (fun _ => (List β → α) → α) (fun K => K []) (fun v _ ih K => f v fun v => ih fun vs => K (v :: vs)) l
theorem frcL_eq {α β : Type} {f : β → (β → α) → α} (hf : ∀ v K, f v K = K v) (l : List β) (K : List β → α) : frcL f l K = K l := by
  induction l generalizing K with
  | nil => rfl
  | cons v vs ih =>
    show f v (fun v => frcL f vs fun vs => K (v :: vs)) = K (v :: vs)
    rw [hf, ih]
noncomputable def frc1 {α : Type} (rec : PV → (PV → α) → α) (v : PV) (K : PV → α) : α := @PV.casesOn (fun _ => α) v
  (fun b => frcB b fun b => K (.bool b)) (fun k n => frcI n fun n => K (.int k n)) (fun s => K (.str s)) (K .nilS)
  (fun es => frcL rec es fun es => K (.slc es)) (fun es => frcL rec es fun es => K (.agg es)) (fun es => frcL rec es fun es => K (.tup es))
  (fun f a c => frcN f fun f => frcL rec a fun a => frcL rec c fun c => K (.fn f a c)) (K .nilF) (fun es => frcL rec es fun es => K (.rp es))
  (fun b e i o => frcN b fun b => frcN e fun e => frcN i fun i => frcN o fun o => K (.bp b e i o))
  (fun b e i o => frcN b fun b => frcN e fun e => frcN i fun i => frcN o fun o => K (.bs b e i o)) (K .undef) (fun l s => K (.yld l s))
noncomputable def frc {α : Type} (d : Nat) : PV → (PV → α) → α := @Nat.rec (fun _ => PV → (PV → α) → α) (fun v K => K v) (fun _ ih => frc1 ih) d
theorem frc_eq {α : Type} (d : Nat) (v : PV) (K : PV → α) : frc d v K = K v := by
  induction d generalizing v K with
  | zero => rfl
  | succ d ih =>
    show frc1 (frc d) v K = K v
    cases v <;> simp only [frc1, frcB_eq, frcI_eq, frcN_eq, frcL_eq ih]
noncomputable def frcBox {α : Type} (B : Box) (K : Box → α) : α := match B with
  | ⟨els, esz, ety, fro, live, arr⟩ => frcL (frc 6) els fun els => frcN esz fun esz => frcN fro fun fro => frcB live fun live => frcB arr fun arr => K ⟨els, esz, ety, fro, live, arr⟩
theorem frcBox_eq {α : Type} (B : Box) (K : Box → α) : frcBox B K = K B := by cases B; simp only [frcBox, frcB_eq, frcN_eq, frcL_eq (frc_eq 6)]
theorem testBit_set (m t j : Nat) : (m ||| 2 ^ t).testBit j = (m.testBit j || decide (t = j)) := by rw [Nat.testBit_or, Nat.testBit_two_pow]
/-- What is hidden by a later one goes. -/
noncomputable def frcS {α β : Type} (l : List (Nat × β)) : Nat → (List (Nat × β) → α) → α :=
  @List.rec (Nat × β) (fun _ => Nat → (List (Nat × β) → α) → α) (fun _ K => K []) (fun p _ ih m K => @Bool.rec (fun _ => α) (frcN (m ||| 2 ^ p.1) fun m => ih m fun l => K (p :: l)) (ih m K) (m.testBit p.1)) l
theorem frcS_eq {α β : Type} (l : List (Nat × β)) (m : Nat) (K : List (Nat × β) → α) : ∃ l', frcS l m K = K l' ∧ ∀ t, m.testBit t = false → lkp l' t = lkp l t := by
  induction l generalizing m K with
  | nil => exact ⟨[], rfl, fun _ _ => rfl⟩
  | cons p l ih =>
    have e : frcS (p :: l) m K = @Bool.rec (fun _ => α) (frcN (m ||| 2 ^ p.1) fun m => frcS l m fun l => K (p :: l)) (frcS l m K) (m.testBit p.1) := rfl
    rw [e]
    cases hb : m.testBit p.1 with
    | true =>
      obtain ⟨l', h1, h2⟩ := ih m K
      refine ⟨l', h1, fun t ht => ?_⟩
      have hne : ¬ t = p.1 := fun e => by rw [e, hb] at ht; cases ht
      rw [h2 t ht]
      simp [lkp, hne]
    | false =>
      simp only [frcN_eq]
      obtain ⟨l', h1, h2⟩ := ih (m ||| 2 ^ p.1) fun l => K (p :: l)
      refine ⟨_, h1, fun t ht => ?_⟩
      obtain ⟨k, v⟩ := p
      simp only [lkp]
      by_cases hk : t = k
      · simp [hk]
      · simp only [if_neg hk]
        exact h2 t (by rw [testBit_set, ht]; simp; exact fun x => hk x.symm)
theorem frcS0 {α β : Type} (l : List (Nat × β)) (K : List (Nat × β) → α) : ∃ l', frcS l 0 K = K l' ∧ lkp l' = lkp l := by
  obtain ⟨l', h1, h2⟩ := frcS_eq l 0 K
  exact ⟨l', h1, funext fun t => h2 t (by simp)⟩

noncomputable def effB {α : Type} (e : Eff) (bs : BoxL) (K : BoxL → Option α) : Option α := match e with
  | .new b B => frcBox B fun B => K (insL bs b B)
  | .wr b i v => match lkp bs b with
    | some B => frcBox { B with els := B.els.set i v } fun B => K (insL bs b B)
    | none => K bs
  | .fro b n => match lkp bs b with
    | some B => frcBox { B with fro := max B.fro n, live := B.live && true } fun B => K (insL bs b B)
    | none => K bs
  | .kill b => match lkp bs b with
    | some B => frcBox { B with fro := max B.fro B.els.length, live := B.live && false } fun B => K (insL bs b B)
    | none => K bs
  | .yld _ => none
noncomputable def effsB {α : Type} : List Eff → BoxL → (BoxL → Option α) → Option α
  | [], bs, K => K bs
  | e :: es, bs, K => effB e bs fun bs => effsB es bs K

theorem effB_eq {α : Type} (e : Eff) (vs : Vars) (bs : BoxL) (K : BoxL → Option α) {x : α} (h : effB e bs K = some x) : ∃ bs', K bs' = some x ∧ e.on (St.of vs bs) = St.of vs bs' := by
  have hs : ∀ b B, (St.of vs bs).setBox b B = St.of vs (insL bs b B) := fun b B => by simp only [St.setBox, St.of, St.ofG, insL_lkp]
  cases e with
  | new b B => simp only [effB, frcBox_eq] at h; exact ⟨_, h, hs _ _⟩
  | wr b i v =>
    simp only [effB] at h
    simp only [Eff.on, of_box]
    cases hb : lkp bs b with
    | some B => simp only [hb, frcBox_eq] at h; exact ⟨_, h, hs _ _⟩
    | none => simp only [hb] at h; exact ⟨_, h, rfl⟩
  | fro b n =>
    simp only [effB] at h
    simp only [Eff.on, of_box]
    cases hb : lkp bs b with
    | some B => simp only [hb, frcBox_eq] at h; exact ⟨_, h, hs _ _⟩
    | none => simp only [hb] at h; exact ⟨_, h, rfl⟩
  | kill b =>
    simp only [effB] at h
    simp only [Eff.on, of_box]
    cases hb : lkp bs b with
    | some B => simp only [hb, frcBox_eq] at h; exact ⟨_, h, hs _ _⟩
    | none => simp only [hb] at h; exact ⟨_, h, rfl⟩
  | yld x => cases h
theorem effsB_eq {α : Type} : ∀ (es : List Eff) (vs : Vars) (bs : BoxL) (K : BoxL → Option α) {x : α}, effsB es bs K = some x → ∃ bs', K bs' = some x ∧ effsOn es (St.of vs bs) = St.of vs bs'
  | [], vs, bs, K, x, h => ⟨bs, h, rfl⟩
  | e :: es, vs, bs, K, x, h => by
    obtain ⟨bs1, h1, h2⟩ := effB_eq e vs bs _ h
    obtain ⟨bs2, h3, h4⟩ := effsB_eq es vs bs1 K h1
    refine ⟨bs2, h3, ?_⟩
    rw [effsOn_cons, h2, h4]

def putL (vs : Vars) : Option Tmp → PV → Vars
  | some t, v => (t, v) :: vs
  | none, _ => vs
theorem putL_eq (vs : Vars) (bs : BoxL) (d : Option Tmp) (v : PV) : (St.of vs bs).put d v = St.of (putL vs d v) bs := by
  cases d with
  | none => rfl
  | some t => rfl

noncomputable def lkR (l : Vars) (k : Nat) : Option PV := @List.rec (Nat × PV) (fun _ => Option PV) none (fun p _ ih => @Bool.rec (fun _ => Option PV) ih (some p.2) (Nat.beq k p.1)) l
theorem lkR_eq (l : Vars) (k : Nat) : lkR l k = lkp l k := by
  induction l with
  | nil => rfl
  | cons p l ih =>
    have e : lkR (p :: l) k = @Bool.rec (fun _ => Option PV) (lkR l k) (some p.2) (Nat.beq k p.1) := rfl
    rw [e, ih]
    obtain ⟨j, v⟩ := p
    simp only [lkp]
    cases h : Nat.beq k j with
    | true => simp [Nat.eq_of_beq_eq_true h]
    | false =>
      have hne : ¬ k = j := fun e => by subst e; simp [Nat.beq_refl] at h
      simp [hne]
noncomputable def evK {α : Type} (vs : Vars) (xs : List Operand) : (List PV → Option α) → Option α :=
  @List.rec Operand (fun _ => (List PV → Option α) → Option α) (fun K => K []) (fun x _ ih K =>
    @Option.rec PV (fun _ => Option α) none (fun v => ih fun l => K (v :: l)) (@Operand.casesOn (fun _ => Option PV) x (fun t => lkR vs t) (fun c => constPV c) (fun _ => none) (fun f => some (.fn f [] [])))) xs
theorem evK_eq {α : Type} (vs : Vars) (bs : BoxL) (xs : List Operand) (K : List PV → Option α) : evK vs xs K = match (St.of vs bs).evs xs with
    | some l => K l
    | none => none := by
  induction xs generalizing K with
  | nil => rfl
  | cons x xs ih =>
    have e : evK vs (x :: xs) K = @Option.rec PV (fun _ => Option α) none (fun v => evK vs xs fun l => K (v :: l)) (@Operand.casesOn (fun _ => Option PV) x (fun t => lkR vs t) (fun c => constPV c) (fun _ => none) (fun f => some (.fn f [] []))) := rfl
    have hx : (@Operand.casesOn (fun _ => Option PV) x (fun t => lkR vs t) (fun c => constPV c) (fun _ => none) (fun f => some (.fn f [] []))) = (St.of vs bs).ev x := by
      cases x <;> simp only [St.ev, St.of, St.ofG, lkR_eq]
    rw [e, hx]
    simp only [St.evs]
    cases (St.of vs bs).ev x with
    | none => rfl
    | some v =>
      simp only [ih]
      cases (St.of vs bs).evs xs <;> rfl

/-! ### operations, code, functions -/
section
variable (P : Program) (call : FuncId → List PV → Option PV)

noncomputable def evOps {α : Type} (ops : Array Oper) (nt base : Nat) : List Oper → Nat → Vars → BoxL → List Acc → (Vars → BoxL → List Acc → Option α) → Option α
  | [], _, vs, bs, accs, K => K vs bs accs
  | o :: rest, i, vs, bs, accs, K => match dstOk nt o with
    | false => none
    | true => match wantedPV ops o (St.of vs bs) with
      | none => none
      | some false => evOps ops nt base rest (i + 1) (putL vs o.dst (.tup [])) bs ([] :: accs) K
      | some true => evK vs o.op.operands.toList fun xs => match opVal P [] (base + i) o.op xs (lkp bs) with
          | none => none
          | some (.done v es, l) => frc 6 v fun v => effsB es bs fun bs => frcN i fun i => evOps ops nt base rest (i + 1) (putL vs o.dst v) bs ((l ++ effAcc es) :: accs) K
          | some (.call f args es, l) => frcN f fun f => frcL (frc 6) args fun args => match call f args with
            | none => none
            | some r => frc 6 r fun r => effsB (if flatPV r then [] else es) bs fun bs => frcN i fun i => evOps ops nt base rest (i + 1) (putL vs o.dst r) bs ((l ++ effAcc es) :: accs) K
          | some (_, _) => none

theorem evOps_sound (hc : ∀ f args r, call f args = some r → SoundAt P f args r) {α : Type} (ops : Array Oper) (nt base : Nat) : ∀ (rest : List Oper) (i : Nat) (vs : Vars) (bs : BoxL) (accs : List Acc)
    (K : Vars → BoxL → List Acc → Option α) (x : α), evOps P call ops nt base rest i vs bs accs K = some x →
    ∃ vs' bs' accs', K vs' bs' accs' = some x ∧ ∀ K' : St → List Acc → Prop, K' (St.of vs' bs') accs' → vops P [] ops nt base i rest (St.of vs bs) accs K'
  | [], i, vs, bs, accs, K, x, h => ⟨vs, bs, accs, h, fun K' hk => hk⟩
  | o :: rest, i, vs, bs, accs, K, x, h => by
    unfold evOps at h
    cases hd : dstOk nt o with
    | false => rw [hd] at h; cases h
    | true =>
      rw [hd] at h
      simp only at h
      cases hw : wantedPV ops o (St.of vs bs) with
      | none => rw [hw] at h; cases h
      | some b =>
        rw [hw] at h
        cases b with
        | false =>
          obtain ⟨vs', bs', accs', h1, h2⟩ := evOps_sound hc ops nt base rest (i + 1) _ bs ([] :: accs) K x h
          refine ⟨vs', bs', accs', h1, fun K' hk => ?_⟩
          simp only [vops]
          refine ⟨hd, ?_⟩
          rw [hw]
          simp only [onWanted, putL_eq]
          exact h2 K' hk
        | true =>
          simp only [evK_eq vs bs] at h
          cases hv : (St.of vs bs).evs o.op.operands.toList with
          | none => rw [hv] at h; cases h
          | some xs =>
            rw [hv] at h
            simp only at h
            cases ho : opVal P [] (base + i) o.op xs (lkp bs) with
            | none => rw [ho] at h; cases h
            | some p =>
              obtain ⟨y, l⟩ := p
              rw [ho] at h
              cases y with
              | done v es =>
                simp only [frc_eq, frcN_eq] at h
                obtain ⟨bs1, e1, e2⟩ := effsB_eq es vs bs _ h
                replace h := e1
                obtain ⟨vs', bs', accs', h1, h2⟩ := evOps_sound hc ops nt base rest (i + 1) _ bs1 _ K x h
                refine ⟨vs', bs', accs', h1, fun K' hk => ?_⟩
                simp only [vops]
                refine ⟨hd, ?_⟩
                rw [hw]
                simp only [onWanted, hv, onVals, of_box, of_out, of_yl, ho, onOut, e2, putL_eq]
                exact h2 K' hk
              | call f args es =>
                simp only [frc_eq, frcN_eq, frcL_eq (frc_eq 6)] at h
                cases hcl : call f args with
                | none => rw [hcl] at h; cases h
                | some r =>
                  rw [hcl] at h
                  simp only at h
                  obtain ⟨bs1, e1, e2⟩ := effsB_eq (if flatPV r then [] else es) vs bs _ h
                  replace h := e1
                  obtain ⟨vs', bs', accs', h1, h2⟩ := evOps_sound hc ops nt base rest (i + 1) _ bs1 _ K x h
                  refine ⟨vs', bs', accs', h1, fun K' hk => ?_⟩
                  simp only [vops]
                  refine ⟨hd, ?_⟩
                  rw [hw]
                  simp only [onWanted, hv, onVals, of_box, of_out, of_yl, ho, onOut]
                  refine ⟨r, hc _ _ _ hcl, ?_⟩
                  simp only []
                  rw [e2, putL_eq]
                  exact h2 K' hk
              | callB => cases h
              | yield => cases h

noncomputable def evC (nt : Nat) : Nat → Code → Vars → BoxL → Option (Exit × Vars × BoxL)
  | 0, _, _, _ => none
  | n + 1, c, vs, bs => match c with
    | .skip => some (.normal, vs, bs)
    | .label _ => some (.normal, vs, bs)
    | .exit id => some (.exit id, vs, bs)
    | .ret => some (.ret, vs, bs)
    | .seq a b => match evC nt n a vs bs with
      | some (.normal, vs, bs) => evC nt n b vs bs
      | r => r
    | .region id ops draw => match Nat.ble (100 * id + ops.size) LENT with
     | false => none
     | true => frcN (100 * id) fun base => evOps P call ops nt base ops.toList 0 vs bs [] fun vs bs accs => match draw with
      | false => some (.normal, vs, bs)
      | true => match drawOk ops accs.reverse with
        | false => none
        | true => some (.normal, vs, bs)
    | .cond x a b => match (St.of vs bs).ev x with
      | some (.bool true) => evC nt n a vs bs
      | some (.bool false) => evC nt n b vs bs
      | _ => none
    | .block id c => match evC nt n c vs bs with
      | some (.exit i, vs, bs) => if i = id then some (.normal, vs, bs) else some (.exit i, vs, bs)
      | r => r
    | .loop c => match evC nt n c vs bs with
      | some (.normal, vs, bs) => frcS vs 0 fun vs => evC nt n (.loop c) vs bs
      | r => r
    | _ => none

/-- A loop from its second round on. -/
def Lwp (P : Program) (nt : Nat) (c : Code) (Q : Exit → St → Prop) (st : St) : Prop :=
  ∀ (C : Ctx), C.P = P → C.nt = nt → ∀ (rd : Option Nat) (a : Act) (w : World), Rel C st a w → ∀ (b : Frame) (k : List Item) (cs : List Frame), b.roundOf = (FW rd).round → (FW rd).fn b.fn → (FW rd).room (cs.length + 1 + 0) →
    ∃ e a' w', (∃ st', Q e st' ∧ Rel C st' a' w') ∧ ArrivesIn (Machine.fenced C.P (FW rd)) C.P (lone (b.atR a (.code c :: .inLoop c :: k)) cs w) b k cs e a' w'
theorem vwp_of_lwp {P : Program} {nt : Nat} {c : Code} {Q : Exit → St → Prop} {st : St} (h : Lwp P nt c Q st) : Vwp P nt (.loop c) Q st := fun C h1 h2 rd a w hr => by
  subst h1; subst h2
  intro b k cs hro hb hroom
  obtain ⟨e, a', w', hq, harr⟩ := h C rfl rfl rd a w hr b k cs hro hb hroom
  exact ⟨e, a', w', hq, .of_steps (.one (fenced_calm hb hroom rfl) stepR_loop) harr⟩
theorem lwp_round {P : Program} {nt : Nat} {c : Code} {Q : Exit → St → Prop} {st : St} (h : Vwp P nt c (vthen (Lwp P nt c Q) Q) st) : Lwp P nt c Q st := fun C h1 h2 rd a w hr => by
  subst h1; subst h2
  intro b k cs hro hb hroom
  obtain ⟨e, a₁, w₁, ⟨s, hq, hr1⟩, harr⟩ := h C rfl rfl rd a w hr b (.inLoop c :: k) cs hro hb hroom
  cases e with
  | normal =>
    obtain ⟨e₂, a₂, w₂, hq₂, harr₂⟩ := hq C rfl rfl rd a₁ w₁ hr1 b k cs hro hb hroom
    exact ⟨e₂, a₂, w₂, hq₂, .of_steps (StepsIn.trans harr (.one (fenced_calm hb hroom rfl) stepR_inLoop)) harr₂⟩
  | exit id => exact ⟨_, a₁, w₁, ⟨s, hq, hr1⟩, .pass (x := .inLoop c) rfl (fun _ _ => .inl (by simp)) harr⟩
  | goto l => exact ⟨_, a₁, w₁, ⟨s, hq, hr1⟩, .pass (x := .inLoop c) rfl (fun _ _ => .inl (by simp)) harr⟩
  | ret => exact ⟨_, a₁, w₁, ⟨s, hq, hr1⟩, .pass (x := .inLoop c) rfl (fun _ _ => .inl (by simp)) harr⟩
  | panic ch => exact ⟨_, a₁, w₁, ⟨s, hq, hr1⟩, .pass (x := .inLoop c) rfl (fun _ _ => .inl (by simp)) harr⟩
  | outgrown => exact ⟨_, a₁, w₁, ⟨s, hq, hr1⟩, .pass (x := .inLoop c) rfl (fun _ _ => .inl (by simp)) harr⟩

def Cwp (P : Program) (nt : Nat) (c : Code) (Q : Exit → St → Prop) (st : St) : Prop := Vwp P nt c Q st ∧ ∀ c', c = .loop c' → Lwp P nt c' Q st

theorem evC_both (hm : P.follows .mixedOrders = true) (hc : ∀ f args r, call f args = some r → SoundAt P f args r) (nt : Nat) : ∀ (n : Nat) (c : Code) (vs : Vars) (bs : BoxL) (e : Exit) (vs' : Vars) (bs' : BoxL),
    evC P call nt n c vs bs = some (e, vs', bs') → ∀ Q : Exit → St → Prop, Q e (St.of vs' bs') → Cwp P nt c Q (St.of vs bs)
  | 0, _, _, _, _, _, _, h, _, _ => by cases h
  | n + 1, c, vs, bs, e, vs', bs', h, Q, hQ => by
    have ih := fun c vs bs e vs' bs' h Q hQ => (evC_both hm hc nt n c vs bs e vs' bs' h Q hQ).1
    have ihl := fun c vs bs e vs' bs' h Q hQ => (evC_both hm hc nt n (.loop c) vs bs e vs' bs' h Q hQ).2 c rfl
    unfold evC at h
    cases c with
    | skip => cases h; exact ⟨vwp_skip hQ, fun _ e => by cases e⟩
    | label l => cases h; exact ⟨vwp_label hQ, fun _ e => by cases e⟩
    | exit id => cases h; exact ⟨vwp_exit hQ, fun _ e => by cases e⟩
    | ret => cases h; exact ⟨vwp_ret hQ, fun _ e => by cases e⟩
    | seq a b =>
      refine ⟨?_, fun _ e => by cases e⟩
      simp only at h
      cases ha : evC P call nt n a vs bs with
      | none => rw [ha] at h; cases h
      | some p =>
        obtain ⟨e1, vs1, bs1⟩ := p
        rw [ha] at h
        refine vwp_seq (ih a vs bs e1 vs1 bs1 ha _ ?_)
        cases e1 with
        | normal => exact ih b vs1 bs1 e vs' bs' h Q hQ
        | _ => cases h; exact hQ
    | region id ops draw =>
      refine ⟨?_, fun _ e => by cases e⟩
      cases hL : Nat.ble (100 * id + ops.size) LENT with
      | false => simp only [hL] at h; cases h
      | true =>
      simp only [hL, frcN_eq] at h
      obtain ⟨vs1, bs1, accs1, h1, h2⟩ := evOps_sound P call hc ops nt (100 * id) ops.toList 0 vs bs [] _ _ h
      refine vwp_region (tb := []) (100 * id) hm (Nat.le_of_ble_eq_true hL) (h2 _ ?_)
      cases draw with
      | false => cases h1; exact ⟨fun x => absurd x (by decide), hQ⟩
      | true =>
        simp only at h1
        cases hd : drawOk ops accs1.reverse with
        | false => rw [hd] at h1; cases h1
        | true => rw [hd] at h1; simp only at h1; cases h1; exact ⟨fun _ => rfl, hQ⟩
    | cond x a b =>
      refine ⟨?_, fun _ e => by cases e⟩
      simp only at h
      split at h
      · rename_i hx; exact vwp_cond hx (by simpa using ih a vs bs e vs' bs' h Q hQ)
      · rename_i hx; exact vwp_cond hx (by simpa using ih b vs bs e vs' bs' h Q hQ)
      · cases h
    | block id c =>
      refine ⟨?_, fun _ e => by cases e⟩
      simp only at h
      cases ha : evC P call nt n c vs bs with
      | none => rw [ha] at h; cases h
      | some p =>
        obtain ⟨e1, vs1, bs1⟩ := p
        rw [ha] at h
        refine vwp_block (ih c vs bs e1 vs1 bs1 ha _ ?_)
        cases e1 with
        | exit i =>
          simp only at h
          simp only [vblock]
          by_cases hi : i = id
          · rw [if_pos hi] at h ⊢; cases h; exact hQ
          · rw [if_neg hi] at h ⊢; cases h; exact hQ
        | _ => cases h; exact hQ
    | loop c =>
      have hl : Lwp P nt c Q (St.of vs bs) := by
        simp only at h
        cases ha : evC P call nt n c vs bs with
        | none => rw [ha] at h; cases h
        | some p =>
          obtain ⟨e1, vs1, bs1⟩ := p
          rw [ha] at h
          refine lwp_round (ih c vs bs e1 vs1 bs1 ha _ ?_)
          cases e1 with
          | normal =>
            obtain ⟨vs2, h1, h2⟩ := frcS0 vs1 fun vs => evC P call nt n (.loop c) vs bs1
            simp only [h1] at h
            have : St.of vs1 bs1 = St.of vs2 bs1 := by simp only [St.of, St.ofG, h2]
            show Lwp P nt c Q (St.of vs1 bs1)
            rw [this]
            exact ihl c vs2 bs1 e vs' bs' h Q hQ
          | _ => cases h; exact hQ
      exact ⟨vwp_of_lwp hl, fun c' e => by cases e; exact hl⟩
    | _ => cases h

theorem evC_sound (hm : P.follows .mixedOrders = true) (hc : ∀ f args r, call f args = some r → SoundAt P f args r) (nt : Nat) (n : Nat) (c : Code) (vs : Vars) (bs : BoxL) (e : Exit) (vs' : Vars) (bs' : BoxL)
    (h : evC P call nt n c vs bs = some (e, vs', bs')) (Q : Exit → St → Prop) (hQ : Q e (St.of vs' bs')) : Vwp P nt c Q (St.of vs bs) := (evC_both P call hm hc nt n c vs bs e vs' bs' h Q hQ).1

end

/-- The value of a call at known values; known calls are taken as they are. -/
noncomputable def evF (P : Program) (known : FuncId → List PV → Option PV) (fuel : Nat) : Nat → FuncId → List PV → Option PV
  | 0, _, _ => none
  | n + 1, f, args => match known f args with
    | some r => some r
    | none => match P.funcs[f]? with
      | none => none
      | some fn => match fn.body with
        | none => none
        | some c => match callable P f && Nat.ble args.length fn.ntmps with
          | false => none
          | true => match evC P (evF P known fuel n) fn.ntmps fuel c (initVars 0 args) [] with
            | some (.ret, vs, bs) => resPV P fn.results.toList (St.of vs bs)
            | some (.normal, vs, bs) => resPV P fn.results.toList (St.of vs bs)
            | _ => none

theorem evF_sound {P : Program} {known : FuncId → List PV → Option PV} (hm : P.follows .mixedOrders = true) (hk : ∀ f args r, known f args = some r → SoundAt P f args r) (fuel : Nat) : ∀ (n : Nat) (f : FuncId) (args : List PV) (r : PV),
    evF P known fuel n f args = some r → SoundAt P f args r
  | 0, _, _, _, h => by cases h
  | n + 1, f, args, r, h => by
    unfold evF at h
    cases hkn : known f args with
    | some r' => rw [hkn] at h; cases h; exact hk _ _ _ hkn
    | none =>
      rw [hkn] at h
      simp only at h
      cases hf : P.funcs[f]? with
      | none => rw [hf] at h; cases h
      | some fn =>
        rw [hf] at h
        simp only at h
        cases hb : fn.body with
        | none => rw [hb] at h; cases h
        | some c =>
          rw [hb] at h
          simp only at h
          cases hcl : callable P f && Nat.ble args.length fn.ntmps with
          | false => rw [hcl] at h; cases h
          | true =>
            rw [hcl] at h
            simp only [Bool.and_eq_true] at hcl
            simp only at h
            have key : ∀ e vs bs, (e = .ret ∨ e = .normal) → evC P (evF P known fuel n) fn.ntmps fuel c (initVars 0 args) [] = some (e, vs, bs) → resPV P fn.results.toList (St.of vs bs) = some r → SoundAt P f args r := by
              intro e vs bs he h1 h2
              refine sound_of fn.ntmps fn.results.toList hf hb hcl.1 rfl rfl hcl.2 (evC_sound P _ hm (fun f args r => evF_sound hm hk fuel n f args r) fn.ntmps fuel c _ [] e vs bs h1 _ ?_)
              rcases he with rfl | rfl <;> simp only [vret, h2]
            split at h
            · rename_i vs bs h1; exact key _ _ _ (.inl rfl) h1 h
            · rename_i vs bs h1; exact key _ _ _ (.inr rfl) h1 h
            · cases h

def noneKnown : FuncId → List PV → Option PV := fun _ _ => none
theorem sound_run {P : Program} {f : FuncId} {args : List PV} {r : PV} (hm : P.follows .mixedOrders = true) (fuel n : Nat) (h : evF P noneKnown fuel n f args = some r) : SoundAt P f args r :=
  evF_sound hm (fun _ _ _ x => by cases x) fuel n f args r h

/-! ### numbers that fit -/
theorem wrap_i64 {n : Int} (h1 : -9223372036854775808 ≤ n) (h2 : n ≤ 9223372036854775807) : IntKind.i64.wrap n = n := IntWalk.i64_in n ⟨h1, h2⟩
/-- Variables alone are kept. -/
theorem le_vars {vs vs' : List (Nat × PV)} {bs : List (Nat × Box)} {o : List (List PV)} {y : Option (Nat × Nat)} (hv : varsLe [] vs vs') : Le (St.ofG vs bs o y) (St.ofG vs' [] o y) :=
  le_of (θ := []) rfl hv trivial

end Go.Vl
