/-
  copy, clear, and bytes as a string.
-/
import Derived.Test.YtkajnimlfehmeaaUI
set_option linter.unusedSimpArgs false
set_option linter.unusedVariables false
namespace Go.Vl
open Go.RowKit

theorem setBox_same {st : St} {b : Nat} {B : Box} (h : st.box b = some B) : st.setBox b B = st := by
  refine St.ext'' rfl ?_ rfl rfl
  funext k
  simp only [St.setBox, upd]
  split
  · rename_i e; subst e; exact h.symm
  · rfl

section
variable {C : Ctx} {st : St} {a : Act} {w : World} {ρ : Rho} {im : Im} {o : Oper}

theorem run_firstCells {P : Program} {xs : List PV} {u : Value} {sz n : Nat} (h : Rep w im (.slc xs) u) (hz : ∀ e ∈ xs, e.cells.length = sz) (hn : n ≤ xs.length) :
    ∃ vs, (Builtin.firstCells sz n u).run P w = .ok vs.toArray w ∧ RepL w im ((xs.take n).flatMap PV.cells) vs ∧ (Builtin.lenOf u).run P w = .ok xs.length w := by
  rcases h.slc_cells with ⟨rfl, c, rfl⟩ | ⟨A, cap, vs, sz', rfl, _, hz', hc, hr, _⟩
  · refine ⟨[], by simp [Builtin.firstCells], by simp; exact .nil, by simp [Builtin.lenOf]⟩
  · have hvl : vs.length = xs.length * sz := by rw [← hr.length, flat_length hz]
    have hmul : n * sz ≤ xs.length * sz := Nat.mul_le_mul_right _ hn
    refine ⟨vs.take (n * sz), ?_, ?_, by simp [Builtin.lenOf]⟩
    · have := run_loadCells_list (P := P) w A (vs.take (n * sz)) (by
        intro j v hv
        rw [List.getElem?_take] at hv
        split at hv
        · exact hc j v hv
        · cases hv)
      have hl : (vs.take (n * sz)).length = n * sz := by simp; omega
      rw [hl] at this
      simp [Builtin.firstCells, this]
    · have := hr.take (n * sz)
      rwa [flat_take n hz] at this

theorem does_copy {t ty : TypeId} {d x r : PV} {ud ux : Value} {es : List Eff} {l : Acc} {sem : Sem Next} (h : Rel' C st a w ρ im) (hd : LR w im ρ d ud) (hx : LR w im ρ x ux) {ts : Array TypeId} (hts : ts[0]? = some t)
    (hrun : ∀ v w', (Builtin.copy_ ts ty #[ud, ux]).run C.P w = .ok v w' → sem.run C.P w = .ok (.value v) w') (he : copyPV C.P t d x st.box = some (.done r es, l)) : Does C (effsOn es st) a w sem r := by
  unfold copyPV at he
  obtain ⟨E, _, _, e1, e2, _⟩ := M.bind_some he
  obtain ⟨c1, _⟩ := M.ofOpt_some e1
  obtain ⟨q, _, _, e3, e4, _⟩ := M.bind_some e2
  obtain ⟨c2, _⟩ := M.ofOpt_some e3
  obtain ⟨⟨y, fs⟩, _, _, e5, e6, _⟩ := M.bind_some e4
  obtain ⟨im1, g1, r1⟩ := esc0_sim h (fun _ => rfl) hx e5
  have hT := tyElem_inv c1
  obtain ⟨i, hi, hi1, _⟩ := tyInfo_inv c2
  cases y with
  | slc xs =>
    cases d with
    | bs b esz off len =>
      obtain ⟨Bo, _, _, e7, e8, _⟩ := M.bind_some e6
      obtain ⟨rfl, _⟩ := M.hard_some e7
      obtain ⟨B, _, _, e9, e10, _⟩ := M.bind_some e8
      obtain ⟨hB, _⟩ := M.ofOpt_some e9
      obtain ⟨_, _, _, e11, e12, _⟩ := M.bind_some e10
      obtain ⟨c3, _⟩ := M.ok_some e11
      obtain ⟨_, _, _, e13, e14, _⟩ := M.bind_some e12
      obtain ⟨c4, _⟩ := M.ok_some e13
      obtain ⟨e15, _⟩ := M.pure_some e14
      cases e15
      simp only [List.all_eq_true, Bool.and_eq_true, beq_iff_eq] at c3 c4
      obtain ⟨⟨⟨⟨⟨d1, d2⟩, d3⟩, d4⟩, d5⟩, d6⟩ := c4
      have d5 := Nat.le_of_ble_eq_true d5
      have d6 := Nat.le_of_ble_eq_true d6
      obtain ⟨vs, k1, k2, k3⟩ := run_firstCells (P := C.P) (n := min xs.length len) r1 (fun e he => (c3 e he).1) (Nat.min_le_left _ _)
      have hfl : ((xs.take (min xs.length len)).flatMap PV.cells).all flatc = true := by
        rw [List.all_eq_true]
        intro v hv
        obtain ⟨e, he, hv⟩ := List.mem_flatMap.1 hv
        exact (c3 e (List.mem_of_mem_take he)).2 v hv
      have hok : ((xs.take (min xs.length len)).flatMap PV.cells).all PV.okCell = true := by
        rw [List.all_eq_true] at hfl ⊢
        exact fun v hv => flatc_ok (hfl v hv)
      have k2' : RepL w im ((xs.take (min xs.length len)).flatMap PV.cells) vs := flatcL_repIm hfl k2
      have hlen : (xs.take (min xs.length len)).length = min xs.length len := by simp
      have hxz : ∀ e ∈ xs.take (min xs.length len), e.cells.length = B.esz := fun e he => by rw [(c3 e (List.mem_of_mem_take he)).1, d4, d3]
      rcases hd.bs_inv with ⟨eρ, ⟨x0, rfl⟩, rfl, rfl⟩ | ⟨g, cap, cur, e', hg, rfl, hob, hcp, hlc, hmx⟩
      · have hbox := h.box b none B eρ hB
        have hl0 : vs = [] := by
          have := k2'.length
          rw [flat_length hxz] at this
          simp at this
          exact List.length_eq_zero_iff.1 this.symm
        subst hl0
        refine ⟨.int .i64 (min xs.length 0 : Nat), w, ρ, im, .inl (hrun _ _ ?_), ?_, .ext _ _ (.int _ _)⟩
        · simp only [Builtin.copy_, List.getElem?_toArray, hts]
          cases x0 with
          | none => simp [run_underlying hT, run_sizeOf' hi, hi1, k3, goInt]; simp [hi1] at k1; simp [k1]
          | some p => simp [run_underlying hT, run_sizeOf' hi, hi1, k3, goInt]; simp [hi1] at k1; simp [k1, storeCells]
        · have : B.over 0 (xs.take (min xs.length 0)) = B := by simp [Box.over]
          rw [this]
          simp only [effsOn, List.foldl_cons, List.foldl_nil, Eff.on]
          have hs : st.setBox b B = st := setBox_same hB
          rw [hs]; exact h
      · obtain ⟨cur', m1, m2, m3⟩ := h.over (xs := xs.take (min xs.length len)) hg hB d1 d5 (by rw [hlen]; exact d6) hxz hok k2'
        rw [hob] at m1; cases m1
        have hst := run_storeCells_at C.P g (off * B.esz) B.ety vs 0 cur w hob (by simpa using m2) ((k2'.toLRL (ρ := ρ)).oneCells hok)
        simp only [Nat.add_zero] at hst
        refine ⟨.int .i64 (min xs.length len : Nat), _, ρ, im, .inl (hrun _ _ ?_), m3, .ext _ _ (.int _ _)⟩
        rw [← d3]
        simp only [Builtin.copy_, List.getElem?_toArray, hts]
        rw [← hi1] at k1
        simp [run_underlying hT, run_sizeOf' hi, k3, goInt]
        rw [List.append_assoc] at hst
        rw [show xs.length.min len = min xs.length len from rfl, k1]
        simp only [Result.andThen_ok, hst]
    | _ => cases e6
  | _ => cases e6

theorem does_clear {t ty : TypeId} {d r : PV} {ud : Value} {es : List Eff} {l : Acc} {sem : Sem Next} (h : Rel' C st a w ρ im) (hd : LR w im ρ d ud) {ts : Array TypeId} (hts : ts[0]? = some t)
    (hrun : ∀ w', (Builtin.clear_ ts ty #[ud]).run C.P w = .ok (.tuple #[]) w' → sem.run C.P w = .ok (.value (.tuple #[])) w') (he : clearPV C.P t d st.box = some (.done r es, l)) : Does C (effsOn es st) a w sem r := by
  unfold clearPV at he
  obtain ⟨E, _, _, e1, e2, _⟩ := M.bind_some he
  obtain ⟨c1, _⟩ := M.ofOpt_some e1
  obtain ⟨q, _, _, e3, e4, _⟩ := M.bind_some e2
  obtain ⟨c2, _⟩ := M.ofOpt_some e3
  obtain ⟨z, _, _, e5, e6, _⟩ := M.bind_some e4
  obtain ⟨cz, _⟩ := M.ofOpt_some e5
  have hT := tyElem_inv c1
  obtain ⟨i, hi, hi1, _⟩ := tyInfo_inv c2
  obtain ⟨i', zv, hz1, hz2, hz3⟩ := zeroPV_inv cz
  rw [hi] at hz1; cases hz1
  cases d with
  | bs b esz off len =>
    obtain ⟨Bo, _, _, e7, e8, _⟩ := M.bind_some e6
    obtain ⟨rfl, _⟩ := M.hard_some e7
    obtain ⟨B, _, _, e9, e10, _⟩ := M.bind_some e8
    obtain ⟨hB, _⟩ := M.ofOpt_some e9
    obtain ⟨_, _, _, e11, e12, _⟩ := M.bind_some e10
    obtain ⟨c3, _⟩ := M.ok_some e11
    obtain ⟨_, _, _, e13, e14, _⟩ := M.bind_some e12
    obtain ⟨c4, _⟩ := M.ok_some e13
    obtain ⟨e15, _⟩ := M.pure_some e14
    cases e15
    simp only [Bool.and_eq_true, beq_iff_eq] at c3 c4
    obtain ⟨⟨⟨⟨⟨d1, d2⟩, d3⟩, d4⟩, d5⟩, d6⟩ := c4
    have d5 := Nat.le_of_ble_eq_true d5
    have d6 := Nat.le_of_ble_eq_true d6
    have hok1 : okCells z.cells = true := by
      have := c3.2
      simp only [okCells, List.all_eq_true] at this ⊢
      exact fun v hv => flatc_ok (this v hv)
    have hrep := (constPV_rep (w := w) (im := im) hz3).cells hok1
    have hzl := hrep.length
    rw [c3.1] at hzl
    have hzs : zv.cells.size = q.1 := by simpa using hzl.symm
    have hrepl : ∀ m, RepL w im ((List.replicate m z).flatMap PV.cells) (List.replicate m zv.cells.toList).flatten := by
      intro m
      induction m with
      | zero => exact .nil
      | succ m ih =>
        rw [List.replicate_succ, List.replicate_succ, List.flatMap_cons, List.flatten_cons]
        exact hrep.append ih
    have hxz : ∀ e ∈ List.replicate len z, e.cells.length = B.esz := fun e he => by rw [List.eq_of_mem_replicate he, c3.1, d4, d3]
    have hok := okCells_flat (vs := List.replicate len z) fun e he => by rw [List.eq_of_mem_replicate he]; exact hok1
    have hzero : ∀ m, (Builtin.zeroCells zv.cells m).toList = (List.replicate m zv.cells.toList).flatten := by
      intro m
      apply List.ext_getElem?
      intro k
      have hget : ∀ m k, (List.replicate m zv.cells.toList).flatten[k]? = if k < m * q.1 then zv.cells[k % q.1]? else none := by
        intro m
        induction m with
        | zero => intro k; simp
        | succ m ih =>
          intro k
          rw [List.replicate_succ, List.flatten_cons]
          by_cases hk : k < q.1
          · rw [List.getElem?_append_left (by simp; omega), if_pos (by rw [Nat.succ_mul]; omega), Nat.mod_eq_of_lt hk, Array.getElem?_toList]
          · rw [List.getElem?_append_right (by simp; omega)]
            simp only [Array.length_toList, hzs]
            rw [ih, Nat.succ_mul]
            have : (k - q.1) % q.1 = k % q.1 := by
              conv => rhs; rw [← Nat.sub_add_cancel (Nat.le_of_not_lt hk), Nat.add_mod_right]
            rw [this]
            by_cases hk2 : k - q.1 < m * q.1
            · rw [if_pos hk2, if_pos (by omega)]
            · rw [if_neg hk2, if_neg (by omega)]
      rw [hget]
      simp only [Builtin.zeroCells, Array.toList_map, List.getElem?_map, Array.getElem?_toList, Array.getElem?_range]
      by_cases hk : k < m * q.1
      · have hq : 0 < q.1 := Nat.pos_of_ne_zero fun e => by rw [e, Nat.mul_zero] at hk; omega
        have hlt : k % q.1 < zv.cells.size := by rw [hzs]; exact Nat.mod_lt _ hq
        simp [hk, hzs]
        rw [hzs] at hlt
        simp [hzs, hlt]
      · simp [hk, hzs]
    rcases hd.bs_inv with ⟨eρ, ⟨x0, rfl⟩, rfl, rfl⟩ | ⟨g, cap, cur, e', hg, rfl, hob, hcp, hlc, hmx⟩
    · refine ⟨.tuple #[], w, ρ, im, .inl (hrun _ ?_), ?_, .ext _ _ (.tup [] [] .nil)⟩
      · simp only [Builtin.clear_, List.getElem?_toArray, hts]
        cases x0 with
        | none => simp [run_underlying hT]
        | some p => simp [run_underlying hT]
      · have : B.over 0 (List.replicate 0 z) = B := by simp [Box.over]
        rw [this]
        simp only [effsOn, List.foldl_cons, List.foldl_nil, Eff.on]
        have hs : st.setBox b B = st := setBox_same hB
        rw [hs]; exact h
    · obtain ⟨cur', m1, m2, m3⟩ := h.over (xs := List.replicate len z) hg hB d1 d5 (by simpa using d6) hxz hok (hrepl len)
      rw [hob] at m1; cases m1
      have hst := run_storeCells_at C.P g (off * B.esz) B.ety _ 0 cur w hob (by simpa using m2) (((hrepl len).toLRL (ρ := ρ)).oneCells hok)
      simp only [Nat.add_zero] at hst
      by_cases hl0 : len = 0
      · subst hl0
        refine ⟨.tuple #[], w, ρ, im, .inl (hrun _ ?_), ?_, .ext _ _ (.tup [] [] .nil)⟩
        · simp only [Builtin.clear_, List.getElem?_toArray, hts]
          simp [run_underlying hT]
        · have : B.over off (List.replicate 0 z) = B := by simp [Box.over]
          rw [this]
          simp only [effsOn, List.foldl_cons, List.foldl_nil, Eff.on]
          have hs : st.setBox b B = st := setBox_same hB
          rw [hs]; exact h
      · refine ⟨.tuple #[], _, ρ, im, .inl (hrun _ ?_), m3, .ext _ _ (.tup [] [] .nil)⟩
        rw [← d3]
        simp only [Builtin.clear_, List.getElem?_toArray, hts]
        cases len with
        | zero => exact absurd rfl hl0
        | succ len =>
          rw [← hzero] at hst ⊢
          simp only [List.getElem?_cons_zero]
          simp [run_underlying hT, run_zeroValue' hi hz2]
          rw [List.append_assoc] at hst
          rw [hst]
          simp
  | _ => cases e6

theorem bytesOf_run {P : Program} {f : Value → ByteArray → Sem (ForInStep ByteArray)} (hf : ∀ n s, f (.int .u8 n) s = pure (.yield (s.push (UInt8.ofNat n.toNat)))) : ∀ (xs : List PV) (bs : List UInt8) (us : List Value) (s : ByteArray), bytesOf xs = some bs → RepL w im xs us →
    (forIn us s f).run P w = .ok ⟨s.data ++ bs.toArray⟩ w
  | [], bs, us, s, h, hr => by
    simp [bytesOf] at h; subst h
    cases hr
    simp
  | x :: xs, bs, us, s, h, hr => by
    unfold bytesOf at h
    split at h
    · rename_i e; cases e
    · rename_i n xs' e
      cases e
      split at h
      · rename_i bs' hb
        cases h
        cases hr with
        | cons _ u _ us h1 t =>
          cases h1
          have ih := bytesOf_run (P := P) hf xs bs' us (s.push (UInt8.ofNat n.toNat)) hb t
          simp only [List.forIn_cons, Sem.run_bind, hf, Sem.run_pure, Result.andThen_ok]
          rw [ih]
          congr 2
          simp [ByteArray.push]
      · cases h
    · cases h

theorem does_conv {s d : TypeId} {x : Operand} {v r : PV} {es : List Eff} {l : Acc} (ho : o.op = .convert s d x) (h : Rel' C st a w ρ im) (hx : LR w im ρ v (a.eval x)) (he : convM C.P s d v st.box = some (.done r es, l)) : Does C (effsOn es st) a w (execOp a.eval o) r := by
  unfold convM at he
  revert he
  cases hv : convPV C.P s d v with
  | some v' =>
    intro he
    obtain ⟨e, _⟩ := M.pure_some he; cases e
    exact does_calm h (calm_conv ho hx hv)
  | none =>
    intro he
    obtain ⟨_, _, _, e1, e2, _⟩ := M.bind_some he
    obtain ⟨c1, _⟩ := M.ok_some e1
    obtain ⟨⟨y, fs⟩, _, _, e3, e4, _⟩ := M.bind_some e2
    obtain ⟨im1, g1, r1⟩ := esc0_sim h (fun _ => rfl) hx e3
    cases y with
    | slc xs =>
      obtain ⟨bs, _, _, e5, e6, _⟩ := M.bind_some e4
      obtain ⟨c2, _⟩ := M.ofOpt_some e5
      obtain ⟨e7, _⟩ := M.pure_some e6; cases e7
      unfold isBytes at c1
      split at c1
      · rename_i e hd hs
        split at c1
        · rename_i he8
          refine ⟨.string ⟨bs.toArray⟩, w, ρ, im, .inl ?_, h, .ext _ _ (.str _)⟩
          have hone : ∀ e ∈ xs, e.cells.length = 1 := by
            have : ∀ (xs : List PV) (bs : List UInt8), bytesOf xs = some bs → ∀ e ∈ xs, e.cells.length = 1 := by
              intro xs
              induction xs with
              | nil => simp
              | cons x xs ih =>
                intro bs hb e he
                unfold bytesOf at hb
                split at hb
                · rename_i q; cases q
                · rename_i q
                  cases q
                  split at hb
                  · rename_i hb2
                    rcases List.mem_cons.1 he with rfl | he
                    · rfl
                    · exact ih _ hb2 e he
                  · cases hb
                · cases hb
            exact this xs bs c2
          have hflat : xs.flatMap PV.cells = xs := by
            have : ∀ (xs : List PV) (bs : List UInt8), bytesOf xs = some bs → xs.flatMap PV.cells = xs := by
              intro xs
              induction xs with
              | nil => simp
              | cons x xs ih =>
                intro bs hb
                unfold bytesOf at hb
                split at hb
                · rename_i q; cases q
                · rename_i q
                  cases q
                  split at hb
                  · rename_i hb2
                    rw [List.flatMap_cons, ih _ hb2]; rfl
                  · cases hb
                · cases hb
            exact this xs bs c2
          rcases r1.slc_cells with ⟨rfl, c, hu⟩ | ⟨A, cap, vs, sz', hu, _, hz', hc, hr, _⟩
          · simp [bytesOf] at c2; subst c2
            simp only [execOp, ho, hu]
            simp [convert, run_underlying hs, run_underlying hd, run_underlying he8, Conv.bytesToString]
            rfl
          · rw [hflat] at hr
            have hl := run_loadCells_list (P := C.P) w A vs hc
            rw [← hr.length] at hl
            simp only [execOp, ho, hu]
            simp [convert, run_underlying hs, run_underlying hd, run_underlying he8, Conv.bytesToString, hl]
            rw [bytesOf_run (fun _ _ => rfl) xs bs vs ByteArray.empty c2 hr]
            simp only [Result.andThen_ok]
            congr 4
            exact Array.empty_append
        · cases c1
      · cases c1
    | _ => cases e4
end
end Go.Vl
