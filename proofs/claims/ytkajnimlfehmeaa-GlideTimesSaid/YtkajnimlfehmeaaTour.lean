/-
  Contract of glide.Tour.
-/
import Derived.Test.YtkajnimlfehmeaaLegs
set_option linter.unusedSimpArgs false
set_option linter.unusedVariables false
namespace Go.Proofs.Ytkajnimlfehmeaa
open Go.RowKit Go.Sky
attribute [local go_sem] Oper.semAt_some

set_option maxRecDepth 100000 in
set_option maxHeartbeats 400000 in
theorem legs_any (AP AT : Option Addr) (nP cP nT cT : Nat) (w : World) : Calls Try.prog 28 #[.slice AP nP cP, .slice AT nT cT] w fun e w' => e = .returned (.func (.func 44) #[] #[.pointer (some ⟨w.heap.size, 0, none⟩), .pointer (some ⟨w.heap.size + 1, 0, none⟩)]) ∧
    (w.alloc (.cells #[.slice AP nP cP] 35)).alloc (.cells #[.slice AT nT cT] 36) = w' := by
  go_enter Try.func28, Try.ntmps28
  go_wp2_with fail
  go_ret
  exact ⟨rfl, rfl⟩

theorem postM_ret {F : Fence} {n : Nat} {P : Program} {fn : Func} {R : Ending → World → Prop} {a : Act} {w : World} {v : Value} (hr : (results fn a.tmps).run P w = .ok v w) (hd : a.defers = []) (h : R (.returned v) w) : bodyPostM F n P fn R .ret a w := by
  show LeavesInM F n P fn a.tmps R a.defers .returning w
  rw [hd]
  exact ⟨v, hr, h⟩
theorem postM_mark {F : Fence} {n : Nat} {P : Program} {fn : Func} {R : Ending → World → Prop} {a : Act} {w : World} {v : Value} {D : Nat} {args : Array Value} (hd : a.defers = [{ target := .collected D, args := args }]) (hD : w.heap[D]? = some (.deferred (some [])))
    (hr : (results fn a.tmps).run P (w.putObj D (.deferred none)) = .ok v (w.putObj D (.deferred none))) (h : R (.returned v) (w.putObj D (.deferred none))) : bodyPostM F n P fn R .ret a w := by
  show LeavesInM F n P fn a.tmps R a.defers .returning w
  rw [hd]
  exact ⟨by simp, .inl ⟨_, _, rfl, run_takeDeferred hD, v, hr, h⟩⟩
theorem el_segs : Elem Try.prog 25 56 6 96 (.agg #[.int .i64 0, .int .i64 0, .int .i64 0, .slice none 0 0, .slice none 0 0, .slice none 0 0]) := .mk' Try.underlying25 (by kernel_rfl) (by decide) rfl
def prevT (ts : List Int) (i : Nat) : Int := if i = 0 then -1 else ts.getD (i - 1) 0
def okI (ps : List V3) (ts : List Int) (i : Nat) : Bool := ptB (ps.getD i ⟨0, 0, 0⟩).x (ps.getD i ⟨0, 0, 0⟩).y (ps.getD i ⟨0, 0, 0⟩).z && (decide (prevT ts i < ts.getD i 0) && decide (ts.getD i 0 ≤ 3600000))
def okB (ps : List V3) (ts : List Int) : Bool := (List.range ps.length).all (okI ps ts)
/-- What Tour hands back. -/
def tourP (ps : List V3) (ts : List Int) : List Seg × Int := if ps.length < 2 ∨ ps.length ≠ ts.length then ([], 2) else if okB ps ts = false then ([], 2) else if 257 < ps.length then ([], 7) else (legsL ps ts, 0)

set_option maxRecDepth 100000 in
set_option maxHeartbeats 1000000 in
theorem Tour_any (nP cP nT cT lo lo' : Nat) (AP AT : Option Addr) (ps : List V3) (ts : List Int) (w : World) (hP : Vecs w lo w.heap.size AP nP cP ps) (hT : Ints w lo' w.heap.size AT nT cT ts) :
    Calls Try.prog 14 #[.slice AP nP cP, .slice AT nT cT] w (RPath w (tourP ps ts).1 (tourP ps ts).2) := by
  have hlP := hP.len_le
  have hlT := hT.len_le
  refine (callsIn_wide (n := 10)).1 ?_
  refine callsIn_of_wp_marks Try.func14 rfl trivial ?_ rfl
  simp only [Try.ntmps14, List.size_toArray, List.length_cons, List.length_nil, Nat.reduceAdd, Nat.reduceSub, Array.replicate_succ, Array.replicate_zero, List.push_toArray, List.append_toArray, List.nil_append, List.cons_append]
  refine wpIn_wide.2 ?_
  by_cases h2 : nP < 2
  · have hf : tourP ps ts = ([], 2) := by rw [tourP, if_pos (.inl (by rw [hP.1]; exact h2))]
    rw [hf]
    have h2' : decide ((nP : Int) < 2) = true := by simp; omega
    go_wp2_with fail
    exact postM_ret (results_tmp2 rfl _ _ _) rfl ⟨none, 0, 0, rfl, PathV.nil _ _ _, Below.refl _ _⟩
  · have h2' : decide ((nP : Int) < 2) = false := by simp; omega
    by_cases hPT : nP = nT
    · have h3 : ((nP : Int) != nT) = false := by simp; omega
      have HP := hide hPT
      have hn2 : 2 ≤ nP := by omega
      clear hPT h2
      go_wp2_with fail
      go_loopw [6, 23] (fun v i wr => ∃ k : Nat, k ≤ nT ∧ i = .int .i64 k ∧ v = .int .i64 (prevT ts k) ∧ Hid ((List.range k).all (okI ps ts) = true) ∧ Below w.heap.size w wr) (fun _ i _ => nT - (intOf i).toNat)
      case atStart => exact ⟨0, Nat.zero_le _, rfl, rfl, rfl, Below.refl _ _⟩
      case round =>
        obtain ⟨k, hk, rfl, rfl, hall, hbl⟩ := hrel
        by_cases hlt : k < nT
        · obtain ⟨pb, po, rfl, hpl, hpb, hpc⟩ := hP.at_ (by have := HP.out; omega)
          obtain ⟨tb, to_, rfl, htb, htc⟩ := hT.at_ (by omega)
          obtain ⟨a1, a2, a3⟩ := hpc k (by have := HP.out; omega)
          have t1 := htc k hlt
          replace a1 := (hbl.cell (p := ⟨pb, _, none⟩) hpb).trans a1
          replace a2 := (hbl.cell (p := ⟨pb, _, none⟩) hpb).trans a2
          replace a3 := (hbl.cell (p := ⟨pb, _, none⟩) hpb).trans a3
          replace t1 := (hbl.cell (p := ⟨tb, _, none⟩) htb).trans t1
          clear hpc htc
          have Hs : Hid ((List.range (k + 1)).all (okI ps ts) = okI ps ts k) := by
            show _ = _
            rw [List.range_succ, List.all_append, hall.out]
            simp
          have Hno : Hid (okI ps ts k = false → tourP ps ts = ([], 2)) := by
            intro h
            rw [tourP, if_neg, if_pos]
            · rw [okB, List.all_eq_false]
              exact ⟨k, by rw [List.mem_range, hP.1]; have := HP.out; omega, by rw [h]; simp⟩
            · rw [hP.1, hT.len]; have := HP.out; omega
          have Hok : Hid (okI ps ts k = (ptB (ps.getD k ⟨0, 0, 0⟩).x (ps.getD k ⟨0, 0, 0⟩).y (ps.getD k ⟨0, 0, 0⟩).z && (decide (prevT ts k < ts.getD k 0) && decide (ts.getD k 0 ≤ 3600000)))) := rfl
          have Hnx : Hid (prevT ts (k + 1) = ts.getD k 0) := rfl
          generalize (ps.getD k ⟨0, 0, 0⟩).x = ax at a1 Hok
          generalize (ps.getD k ⟨0, 0, 0⟩).y = ay at a2 Hok
          generalize (ps.getD k ⟨0, 0, 0⟩).z = az at a3 Hok
          generalize ts.getD k 0 = t at t1 Hok Hnx
          generalize prevT ts k = lst at Hok ⊢
          generalize okI ps ts k = okk at Hok Hs Hno
          have i1 : (0 : Int) ≤ k := by omega
          have i2 : (k : Int) < nP := by have := HP.out; omega
          have i3 : (k : Int) < nT := by omega
          go_wp2_with fail
          refine (v_Point_any _ _ _ _).mono ?_
          rintro e w1 ⟨rfl, hb⟩
          have hbl1 := hbl.trans (hb.mono hbl.size)
          clear hb
          by_cases hq : ptB ax ay az = true
          · by_cases hq2 : lst < t
            · have hq2' : decide (t ≤ lst) = false := by simp; omega
              by_cases hq3 : t ≤ 3600000
              · have hq3' : decide (3600000 < t) = false := by simp; omega
                have Hfin : Hid (okk = true) := by show _ = _; rw [Hok.out, hq]; simp [hq2, hq3]
                rw [hq]
                clear hq hq2 hq3
                go_wp2_with fail
                go_roundw
                case rel => exact ⟨k + 1, by omega, by go_num, by rw [Hnx.out], by show _ = _; rw [Hs.out, Hfin.out], hbl1⟩
                case measure => simp [intOf]; omega
              · have hq3' : decide (3600000 < t) = true := by simp; omega
                have Hfin : Hid (okk = false) := by show _ = _; rw [Hok.out]; simp [hq3]
                rw [hq]
                clear hq hq2 hq3
                go_wp2_with fail
                exact postM_ret (results_tmp2 rfl _ _ _) rfl (by rw [Hno.out Hfin.out]; exact ⟨none, 0, 0, rfl, PathV.nil _ _ _, hbl1⟩)
            · have hq2' : decide (t ≤ lst) = true := by simp; omega
              have Hfin : Hid (okk = false) := by show _ = _; rw [Hok.out]; simp [hq2]
              rw [hq]
              clear hq hq2
              go_wp2_with fail
              exact postM_ret (results_tmp2 rfl _ _ _) rfl (by rw [Hno.out Hfin.out]; exact ⟨none, 0, 0, rfl, PathV.nil _ _ _, hbl1⟩)
          · have hq' : ptB ax ay az = false := by simpa using hq
            have Hfin : Hid (okk = false) := by show _ = _; rw [Hok.out, hq']; rfl
            rw [hq']
            clear hq hq'
            go_wp2_with fail
            exact postM_ret (results_tmp2 rfl _ _ _) rfl (by rw [Hno.out Hfin.out]; exact ⟨none, 0, 0, rfl, PathV.nil _ _ _, hbl1⟩)
        · have hok : okB ps ts = true := by
            have h1 := hall.out
            have h2 := HP.out
            rw [okB, hP.1, h2, show nT = k by omega]
            exact h1
          have Hok := hide hok
          by_cases h257 : 257 < nP
          · have hf : tourP ps ts = ([], 7) := by rw [tourP, if_neg (by rw [hP.1, hT.len]; have := HP.out; omega), if_neg (by rw [hok]; simp), if_pos (by rw [hP.1]; exact h257)]
            have Hf := hide hf
            have h257' : decide ((257 : Int) < nP) = true := by simp; omega
            clear hok hf
            go_wp2_with fail
            exact postM_ret (results_tmp2 rfl _ _ _) rfl (by rw [Hf.out]; exact ⟨none, 0, 0, rfl, PathV.nil _ _ _, hbl⟩)
          · have hf : tourP ps ts = (legsL ps ts, 0) := by rw [tourP, if_neg (by rw [hP.1, hT.len]; have := HP.out; omega), if_neg (by rw [hok]; simp), if_neg (by rw [hP.1]; exact h257)]
            have Hf := hide hf
            have h257' : decide ((257 : Int) < nP) = false := by simp; omega
            clear hf
            have hsm : ∀ k, k < nP → (-2097152 ≤ (ps.getD k ⟨0, 0, 0⟩).x ∧ (ps.getD k ⟨0, 0, 0⟩).x ≤ 2097152) ∧ (-2097152 ≤ (ps.getD k ⟨0, 0, 0⟩).y ∧ (ps.getD k ⟨0, 0, 0⟩).y ≤ 2097152) ∧ (-2097152 ≤ (ps.getD k ⟨0, 0, 0⟩).z ∧ (ps.getD k ⟨0, 0, 0⟩).z ≤ 2097152) := by
              intro i hi
              rw [okB, List.all_eq_true] at hok
              have h := hok i (List.mem_range.2 (by rw [hP.1]; exact hi))
              simp only [okI, Bool.and_eq_true] at h
              exact ptB_small h.1
            have Hsm := hide hsm
            clear hok hsm
            go_wp2_with fail
            refine (legs_any _ _ _ _ _ _ _).mono ?_
            rintro e w2 ⟨rfl, rfl⟩
            have hbx := row_alloc (row_alloc (row_new wr (.cells #[.slice none 0 0] 25)) (.cells #[.slice AP nP cP] 35)) (.cells #[.slice AT nT cT] 36)
            have hb1 := row_alloc (row_new (wr.alloc (.cells #[.slice none 0 0] 25)) (.cells #[.slice AP nP cP] 35)) (.cells #[.slice AT nT cT] 36)
            have hb2 := row_new ((wr.alloc (.cells #[.slice none 0 0] 25)).alloc (.cells #[.slice AP nP cP] 35)) (.cells #[.slice AT nT cT] 36)
            have hsz := hbl.size
            have hB2 : Below w.heap.size w (((wr.alloc (.cells #[.slice none 0 0] 25)).alloc (.cells #[.slice AP nP cP] 35)).alloc (.cells #[.slice AT nT cT] 36)) := ((hbl.alloc hsz _).alloc (by simp; omega) _).alloc (by simp; omega) _
            simp only [World.size_alloc] at hb1 hb2
            go_wp2_with fail
            refine wpIn_wide (n := 10).1 ?_
            generalize ((wr.alloc (.cells #[.slice none 0 0] 25)).alloc (.cells #[.slice AP nP cP] 35)).alloc (.cells #[.slice AT nT cT] 36) = w2 at hbx hb1 hb2 hB2 ⊢
            have hn₀ : w.heap.size ≤ w2.heap.size := hB2.size
            have hs1 := legs1_seq (wr.heap.size + 1) (wr.heap.size + 1 + 1) w.heap.size nP cP nT cT lo lo' w.heap.size AP AT ps ts w hP hT HP.out (by omega) Hsm.out (10 - 1) w2 hB2 hn₀ hn₀ hb1 hb2
            have hlen := legsL_len ps ts
            rw [hP.1] at hlen
            have Hlen := hide hlen
            clear hlen
            refine rangeFunc_facts (α := Array Value) (gf := 44) (lb := #[.pointer (some ⟨wr.heap.size + 1, 0, none⟩), .pointer (some ⟨wr.heap.size + 1 + 1, 0, none⟩)]) rfl (enters_of Try.func44 (by kernel_rfl) rfl) hs1
              (fun h k => h.trans k) (fun W l o o' hl h ho => KeepB.putObj (by omega) h ho) (fun _ => rfl)
              (fun pre W => ((∃ v, W.heap[wr.heap.size]? = some (.cells #[v] 25 (0, 0)) ∧ Ow W w.heap.size 56 6 v (pre.flatMap Array.toList)) ∧ ∀ x ∈ pre, x.size = 6) ∧ Below w.heap.size w W) ?hI ?hS ?hF ?h0
              (fun x a' W => ∃ Bx, W.heap[Bx]? = some (.cells x 56 (0, 0)) ∧ a' = { tmps := #[.slice AP nP cP, .slice AT nT cT, undef, undef, u4, u5, .int .i64 (prevT ts k), u7, u8, .pointer (some ⟨wr.heap.size, 0, none⟩), .pointer (some ⟨Bx, 0, none⟩), .slice AP nP cP, .int .i64 (nP : Int), .bool false, .bool false, .slice AP nP cP, .int .i64 (nP : Int), .slice AT nT cT, .int .i64 (nT : Int), .bool false, .bool false, .slice AT nT cT, .int .i64 (nT : Int), .int .i64 (k : Int), .bool false, u25, u26, u27, u28, u29, u30, u31, u32, u33, u34, u35, u36, u37, u38, u39, u40, u41, u42, u43, u44, .slice AP nP cP, .int .i64 (nP : Int), .bool false, .slice AP nP cP, .slice AT nT cT, .func (.func 44) #[] #[.pointer (some ⟨wr.heap.size + 1, 0, none⟩), .pointer (some ⟨wr.heap.size + 1 + 1, 0, none⟩)], .agg x, undef, undef, undef, undef, undef], defers := [] }) ?hAx ?assign ?body ?done
            case hI =>
              rintro pre A B row ⟨⟨⟨v, h1, h2⟩, h3⟩, h4⟩ hg hr
              have hr' : ∀ r, row = some r → ∃ o : Obj, A.heap[r]? = some o ∧ o.isCells = false := fun r e => (hr r e).2
              exact ⟨⟨⟨v, grown_cells hg hr' h1, h2.grown_cells hg hr'⟩, h3⟩, h4.grown hg h4.size (fun k e => Nat.le_trans hn₀ (hr k e).1)⟩
            case hS =>
              rintro xs A B row ⟨h1, h2⟩ hg hr
              refine ⟨h1, fun i s hi hs => ?_⟩
              obtain ⟨cs, h3, h4⟩ := h2 i s hi hs
              exact ⟨cs, h3, h4.grown_cells hg (fun r e => (hr r e).2)⟩
            case hF =>
              rintro pre x _ A B row ⟨s, h1, h2⟩ hg hr
              exact ⟨s, h1, h2.grown_cells hg (fun r e => (hr r e).2)⟩
            case h0 => exact ⟨⟨⟨_, hbx, Ow.nil _ _ _ _⟩, fun x hx => by cases hx⟩, hB2⟩
            case hAx =>
              rintro x a' _ A B row ⟨Bx, h2, h3⟩ hg hr
              exact ⟨Bx, grown_cells hg (fun r e => (hr r e).2) h2, h3⟩
            case assign =>
              rintro l pre x W K hi ⟨s, hs, A1, n1, c1, A2, n2, c2, A3, n3, c3, rfl, hx1, hx2, hx3⟩ hK
              gi_wp2
              have hal : ∀ {k : Nat} {o o' : Obj}, W.heap[k]? = some o → (W.alloc o').heap[k]? = some o := fun h => row_alloc h _
              obtain ⟨⟨⟨v, hv1, hv2⟩, hv3⟩, hv4⟩ := hi
              exact hK _ _ ((KeepsOthers.alloc _ _).from _) (KeepB.of_below ((Below.refl _ W).alloc (Nat.le_refl _) _) (Nat.le_refl _) hv4.size) ⟨⟨⟨v, row_alloc hv1 _, hv2.alloc _⟩, hv3⟩, hv4.alloc hv4.size _⟩
                ⟨s, hs, A1, n1, c1, A2, n2, c2, A3, n3, c3, rfl, hx1.alloc _, hx2.alloc _, hx3.alloc _⟩ ⟨W.heap.size, row_new _ _, rfl⟩
            case body =>
              rintro l pre x a' W ⟨⟨⟨v, hv1, hv2⟩, hv3⟩, hv4⟩ ⟨s, hs, hseg⟩ ⟨Bx, hrow, rfl⟩
              obtain ⟨v0, v1, v2, v3, v4, v5, rfl⟩ : ∃ v0 v1 v2 v3 v4 v5, x = #[v0, v1, v2, v3, v4, v5] := by obtain ⟨_, _, _, _, _, _, _, _, _, rfl, _⟩ := hseg; exact ⟨_, _, _, _, _, _, rfl⟩
              have hone : ∀ u ∈ [v0, v1, v2, v3, v4, v5], u.oneCell' = true := by
                obtain ⟨_, _, _, _, _, _, _, _, _, h, _⟩ := hseg
                simp only [Array.mk.injEq, List.cons.injEq] at h
                obtain ⟨rfl, rfl, rfl, rfl, rfl, rfl, _⟩ := h
                simp [Value.oneCell']
              have hpl : pre.length < 256 := by
                have h1 := (List.getElem?_eq_some_iff.1 hs).1
                rw [Hlen.out] at h1
                omega
              have hfl : (pre.flatMap Array.toList).length ≤ 6 * 256 := by
                have := flat6_len pre hv3
                omega
              have hcv := row_cell hv1 0
              obtain ⟨⟨q0, q1, q2, q3, q4, q5⟩, _⟩ := row6 hrow
              simp at hcv
              clear hs
              have hwn : w.heap.size ≤ W.heap.size := hv4.size
              have hbl2 := row_alloc hv1 (.cells #[v0, v1, v2, v3, v4, v5] 56)
              gi_wp2_with (gi_at_builtin; refine wpListIn_app rfl _ _ 25 rfl el_segs (by decide) w.heap.size v (pre.flatMap Array.toList) rfl (hv2.alloc _) W.heap.size 1 1 [v0, v1, v2, v3, v4, v5] rfl rfl (cells_new W #[v0, v1, v2, v3, v4, v5] 56) hone ?b1 ?b2 ((pre ++ [#[v0, v1, v2, v3, v4, v5]]).flatMap Array.toList) ?b3 ?_)
              case b1 => simp only [List.length_cons, List.length_nil]; omega
              case b2 => simp; omega
              case b3 => simp
              intro A n c w1 hown hgr
              obtain ⟨z1, z2, z3, z4, z5⟩ := round_app (n₀ := w.heap.size) (tb := 25) (by decide) hbl2 (hv2.alloc (.cells #[v0, v1, v2, v3, v4, v5] 56)) hgr hown (Nat.le_refl _) (by omega)
              have y1 := row_cell z1 0
              have y2 := row_free z1 0
              simp at y1
              gi_wp2_with fail
              exact ⟨((KeepsOthers.alloc _ _).trans z4).from _, (KeepB.of_below ((Below.refl _ W).alloc (Nat.le_refl _) _) (Nat.le_refl _) hwn).trans z5, ⟨⟨_, z2, by rw [List.flatMap_append, List.flatMap_singleton]; exact z3⟩, fun x hx => by
                rcases List.mem_append.1 hx with hx | hx
                · exact hv3 x hx
                · obtain rfl := List.mem_singleton.1 hx; rfl⟩, (hv4.alloc hwn _).trans z5.1⟩
            case done =>
              rintro D xs W hD ⟨hxl, hall⟩ ⟨⟨⟨v, hv1, hv2⟩, hv3⟩, hv4⟩ hK
              have hcv := row_cell hv1 0
              simp at hcv
              obtain ⟨A, n, c, rfl, hsl⟩ := hv2.sl
              have Hall := hide hall
              have Hxl := hide hxl
              clear hall hxl hs1
              go_wp2_with fail
              have hnc : ∀ r, some D = some r → ∃ o : Obj, W.heap[r]? = some o ∧ o.isCells = false := fun r e => by injection e with e; subst e; exact ⟨_, hK, rfl⟩
              have hg := grownBy_putObj' W D (.deferred none)
              have hlx := Hlen.out
              have hsz6 := flat6_len xs hv3
              have hn : xs.length = n := by
                have h1 := hsl.2.2.1
                omega
              have hn' : (legsL ps ts).length = n := by have h3 := Hxl.out; omega
              have hP2 : PathV (W.putObj D (.deferred none)) w.heap.size (W.putObj D (.deferred none)).heap.size A n c (legsL ps ts) := by
                refine ⟨hn', fun i => xs.getD i #[], ?_, fun i s hs => ?_⟩
                · rw [← hn, flat_range, hn]
                  exact (hv2.grown_cells hg hnc).slice
                · obtain ⟨cs, h1, h2⟩ := Hall.out i s (by have := (List.getElem?_eq_some_iff.1 hs).1; omega) hs
                  have e1 : xs.getD i #[] = cs := by rw [List.getD_eq_getElem?_getD, h1]; rfl
                  simp only [e1]
                  exact (h2.grown_cells hg hnc).seg
              exact postM_mark (D := D) rfl hK (results_tmp2 rfl _ _ _) (by rw [Hf.out]; exact ⟨A, n, c, rfl, hP2, hv4.grown hg hv4.size (fun r e => by injection e; omega)⟩)
    · have hf : tourP ps ts = ([], 2) := by rw [tourP, if_pos (.inr (by rw [hP.1, hT.len]; exact hPT))]
      rw [hf]
      have h3 : ((nP : Int) != nT) = true := by simp; omega
      go_wp2_with fail
      exact postM_ret (results_tmp2 rfl _ _ _) rfl ⟨none, 0, 0, rfl, PathV.nil _ _ _, Below.refl _ _⟩

end Go.Proofs.Ytkajnimlfehmeaa
