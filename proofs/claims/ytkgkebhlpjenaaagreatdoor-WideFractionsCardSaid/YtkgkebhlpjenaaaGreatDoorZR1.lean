/-
  ZL4, US2, ZR1 (merged for the claim).
-/
import Derived.Test.YtkgkebhlpjenaaaGreatDoorZW16
import Derived.Test.YtkgkebhlpjenaaaGreatDoorZA13
import Derived.Test.YtkgkebhlpjenaaaGreatDoorDg
import Derived.LaidMore
import Derived.OpenShut
import Derived.Stop.Joined
import Derived.Test.YtkgkebhlpjenaaaGreatDoorRows
import Derived.Test.YtkgkebhlpjenaaaGreatDoorTie
import Derived.Test.YtkgkebhlpjenaaaGreatDoorCards
import Derived.SevenTiedAt
import Derived.LaidSub
import Derived.MakeChecks
import Derived.Lib.LaidTab
import Derived.Lib.ItoaNum
set_option linter.unusedSimpArgs false
set_option linter.unusedVariables false
namespace Go.Proofs.YtkgkebhlpjenaaaGreatDoor
open Go.Vl Go.RowKit Go.Dg

theorem blen_256 {m k : Nat} (h : m < 256 ^ k) : blen m ≤ 8 * k := blen_le (8 * k) m (by rw [Nat.pow_mul]; exact h)
theorem outE_small {n : Int} {k : Nat} (hk : k ≤ 8192) (h : n.natAbs < 256 ^ k) : outE n = 0 := by
  have := blen_256 h
  rw [outE, if_neg (by omega)]
theorem outN_small {n : Int} {k : Nat} (hk : k ≤ 8192) (h : n.natAbs < 256 ^ k) : outN n = n := by
  have := blen_256 h
  rw [outN, if_neg (by omega)]
theorem is_sure (n : Int) (k : Nat) (hk : k ≤ 8192) (h : n.natAbs < 256 ^ k) : SoundAt Tryz.prog 18 [wPV n, .int .i64 0, rI n] (.bool true) := by
  have := is_small n k (by omega) h
  rwa [outE_small hk h, outN_small hk h] at this
set_option maxHeartbeats 4000000 in
theorem WideProducts_v (an bn : Bool) (a b : ByteArray) : SoundAt Tryz.prog 5 [.agg [.bool an, .str a], .agg [.bool bn, .str b]] (.bool true) := by
  have hs := short_v [(an, a), (bn, b)] (by simp)
  have hv2 := valid_v [(an, a), (bn, b)] (by simp)
  simp only [List.map_cons, List.map_nil, wA, List.all_cons, List.all_nil, Bool.and_true] at hs hv2
  have hk := known_v
  by_cases hsm : a.size ≤ 60 ∧ b.size ≤ 60
  · obtain ⟨ha, hb⟩ := hsm
    have e0 : (decide (a.size ≤ 60) && decide (b.size ≤ 60)) = true := by simp [ha, hb]
    rw [e0] at hs
    have z1 : ((⟨#[]⟩ : ByteArray) == ⟨#[]⟩) = true := ba_self _
    have z2 : ((2 : Int) == 2) = true := rfl
    have z3 : ((3 : Int) == 3) = true := rfl
    have b1 : ∀ b : Bool, (b == b) = true := fun b => by cases b <;> rfl
    have hx := wnum_lt an a 60 ha
    have hy := wnum_lt bn b 60 hb
    cases hv : (validB an a.data.toList && validB bn b.data.toList) with
    | false =>
      have hm := wMul_no an bn a b hv
      have hq := wQuo_no an bn a b hv
      have hg := wGCD_no an bn a b hv
      rw [refused_eq] at hm hg
      rw [hv] at hv2
      refine sound_go (tb := []) 138 [.tmp 4] [0, 1, 2, 3, 4, 5, 6, 7, 8, 9, 10, 11, 12, 13, 14, 15, 16, 21, 47, 100, 103] mixed Tryz.func5 rfl (by kernel_rfl) (by kernel_rfl) (by kernel_rfl) (by kernel_rfl) ?_
      repeat (first | (simp -implicitDefEqProofs only [go_sem, Nat.reduceAdd, Nat.reduceMul, Nat.reduceEqDiff, Nat.reduceLT, Nat.reduceLeDiff, Nat.reduceSub, Nat.reduceBEq, reduceIte, reduceCtorEq, Int.reduceEq, Int.reduceNe, Nat.reduceBneDiff, Int.reduceLE, Int.reduceLT, Int.reduceToNat, Int.reduceAdd, Int.reduceSub, Int.reduceMul, Int.reduceNeg, T_ok3, T_agg3, T_isinfo3, T_info3, T_cells3, T_zero3, T_int3, T_ok4, T_agg4, T_isinfo4, T_info4, T_cells4, T_zero4, T_bool4, T_ok9, T_agg9, T_isinfo9, T_info9, T_cells9, T_zero9, T_str9, T_len9t, T_ok23, T_agg23, T_isinfo23, T_info23, T_cells23, T_zero23, T_build23, T_f23_0, T_p23_0, T_f23_1, T_p23_1, T_eqs23, T_ok26, T_agg26, T_isinfo26, T_info26, T_cells26, T_zero26, T_int26, T_ok29, T_agg29, T_isinfo29, T_info29, T_cells29, T_zero29, T_elem29, T_under29, T_len29s, T_len29n, T_len29b, T_ok31, T_agg31, T_isinfo31, T_info31, T_cells31, T_zero31, T_build31, T_f31_0, T_p31_0, T_f31_1, T_p31_1, T_ok79, T_agg79, T_isinfo79, T_info79, T_cells79, T_zero79, T_elem79, T_under79, T_len79s, T_len79n, T_len79b, z1, z2, b1]) | ((with_reducible refine gcall_eq (hs) ?_ ?_ ?_); (with_reducible rfl); rfl) | ((with_reducible refine gcall_eq (hm) ?_ ?_ ?_); (with_reducible rfl); rfl) | ((with_reducible refine gcall_eq (hq) ?_ ?_ ?_); (with_reducible rfl); rfl) | ((with_reducible refine gcall_eq (hg) ?_ ?_ ?_); (with_reducible rfl); rfl) | ((with_reducible refine gcall_eq (hv2) ?_ ?_ ?_); (with_reducible rfl); rfl) | ((with_reducible refine gcall_eq (hk) ?_ ?_ ?_); (with_reducible rfl); rfl) | (with_reducible exact drawQ_true _ _ (by kernel_rfl)) | (with_reducible refine And.intro (drawQ_true _ _ (by kernel_rfl)) ?_))
    | true =>
      rw [hv] at hv2
      obtain ⟨va, vb⟩ := (Bool.and_eq_true_iff).1 hv
      have hfa : SoundAt Tryz.prog 15 [.agg [.bool an, .str a]] (rI (wnum an a)) := rfrom_v an a (by omega)
      have hfb : SoundAt Tryz.prog 15 [.agg [.bool bn, .str b]] (rI (wnum bn b)) := rfrom_v bn b (by omega)
      have hm := wMul_v an bn a b va vb (by omega) (by omega)
      have hg := wGCD_v an bn a b va vb (by omega) (by omega)
      have hmr := rmul_v (wnum an a) (wnum bn b) (by have := (small_ok _ 60 hx).1; have := (small_ok _ 60 hy).1; omega)
      have hgr := rgcd_v (wnum an a) (wnum bn b) (Nat.le_trans (small_ok _ 60 hx).1 (by decide)) (Nat.le_trans (small_ok _ 60 hy).1 (by decide))
      rw [wnum_abs, wnum_abs] at hgr
      have i1 := is_small (wnum an a * wnum bn b) 120 (by decide) (mul_lt hx hy)
      have i2 := is_small ((Nat.gcd (bnum a.data.toList) (bnum b.data.toList) : Nat) : Int) 60 (by decide) (gcd_lt (by rw [← wnum_abs an]; exact hx) (by rw [← wnum_abs bn]; exact hy))
      have rs := rsign_v (wnum bn b)
      rw [outPV_eq] at hm hg
      by_cases h0 : b.data.toList = []
      · have hq := wQuo_zero an bn a b va vb h0
        have g1 : ((wnum bn b).sign == 0) = true := by rw [wnum_nil h0]; rfl
        generalize ((Nat.gcd (bnum a.data.toList) (bnum b.data.toList) : Nat) : Int) = G at *
        generalize wnum an a * wnum bn b = M at *
        refine sound_go (tb := []) 138 [.tmp 4] [0, 1, 2, 3, 4, 5, 6, 7, 8, 9, 10, 11, 12, 13, 14, 15, 16, 21, 47, 100, 103] mixed Tryz.func5 rfl (by kernel_rfl) (by kernel_rfl) (by kernel_rfl) (by kernel_rfl) ?_
        repeat (first | (simp -implicitDefEqProofs only [go_sem, Nat.reduceAdd, Nat.reduceMul, Nat.reduceEqDiff, Nat.reduceLT, Nat.reduceLeDiff, Nat.reduceSub, Nat.reduceBEq, reduceIte, reduceCtorEq, Int.reduceEq, Int.reduceNe, Nat.reduceBneDiff, Int.reduceLE, Int.reduceLT, Int.reduceToNat, Int.reduceAdd, Int.reduceSub, Int.reduceMul, Int.reduceNeg, T_ok3, T_agg3, T_isinfo3, T_info3, T_cells3, T_zero3, T_int3, T_ok4, T_agg4, T_isinfo4, T_info4, T_cells4, T_zero4, T_bool4, T_ok9, T_agg9, T_isinfo9, T_info9, T_cells9, T_zero9, T_str9, T_len9t, T_ok23, T_agg23, T_isinfo23, T_info23, T_cells23, T_zero23, T_build23, T_f23_0, T_p23_0, T_f23_1, T_p23_1, T_eqs23, T_ok26, T_agg26, T_isinfo26, T_info26, T_cells26, T_zero26, T_int26, T_ok29, T_agg29, T_isinfo29, T_info29, T_cells29, T_zero29, T_elem29, T_under29, T_len29s, T_len29n, T_len29b, T_ok31, T_agg31, T_isinfo31, T_info31, T_cells31, T_zero31, T_build31, T_f31_0, T_p31_0, T_f31_1, T_p31_1, T_ok79, T_agg79, T_isinfo79, T_info79, T_cells79, T_zero79, T_elem79, T_under79, T_len79s, T_len79n, T_len79b, z1, z3, b1, g1, wPV, rI, di]) | ((with_reducible refine gcall_eq (hs) ?_ ?_ ?_); (with_reducible rfl); rfl) | ((with_reducible refine gcall_eq (hm) ?_ ?_ ?_); (with_reducible rfl); rfl) | ((with_reducible refine gcall_eq (hq) ?_ ?_ ?_); (with_reducible rfl); rfl) | ((with_reducible refine gcall_eq (hg) ?_ ?_ ?_); (with_reducible rfl); rfl) | ((with_reducible refine gcall_eq (hv2) ?_ ?_ ?_); (with_reducible rfl); rfl) | ((with_reducible refine gcall_eq (hk) ?_ ?_ ?_); (with_reducible rfl); rfl) | ((with_reducible refine gcall_eq (hfa) ?_ ?_ ?_); (with_reducible rfl); rfl) | ((with_reducible refine gcall_eq (hfb) ?_ ?_ ?_); (with_reducible rfl); rfl) | ((with_reducible refine gcall_eq (hmr) ?_ ?_ ?_); (with_reducible rfl); rfl) | ((with_reducible refine gcall_eq (hgr) ?_ ?_ ?_); (with_reducible rfl); rfl) | ((with_reducible refine gcall_eq (i1) ?_ ?_ ?_); (with_reducible rfl); rfl) | ((with_reducible refine gcall_eq (i2) ?_ ?_ ?_); (with_reducible rfl); rfl) | ((with_reducible refine gcall_eq (rs) ?_ ?_ ?_); (with_reducible rfl); rfl) | (with_reducible exact drawQ_true _ _ (by kernel_rfl)) | (with_reducible refine And.intro (drawQ_true _ _ (by kernel_rfl)) ?_))
      · have hne := wnum_ne vb h0
        have hq := wQuo_v an bn a b va vb h0 (by omega) (by omega)
        have g1 : ((wnum bn b).sign == 0) = false := by simp only [beq_eq_false_iff_ne, ne_eq, Int.sign_eq_zero_iff_zero]; exact hne
        have hqr := rquo_v (wnum an a) (wnum bn b) hne (Nat.le_trans (small_ok _ 60 hx).1 (by decide)) (Nat.le_trans (small_ok _ 60 hy).1 (by decide))
        have d1 := div_lt hx (wnum bn b)
        have d2 := mod_lt (wnum an a) hne hy
        have i3 := is_sure _ 61 (by decide) d1
        have i4 := is_sure _ 60 (by decide) d2
        rw [quoPV, outN_small (by decide) d1, outN_small (by decide) d2] at hq
        generalize ((Nat.gcd (bnum a.data.toList) (bnum b.data.toList) : Nat) : Int) = G at *
        generalize wnum an a * wnum bn b = M at *
        generalize wnum an a / wnum bn b = Q at *
        generalize wnum an a % wnum bn b = R at *
        refine sound_go (tb := []) 138 [.tmp 4] [0, 1, 2, 3, 4, 5, 6, 7, 8, 9, 10, 11, 12, 13, 14, 15, 16, 21, 47, 100, 103] mixed Tryz.func5 rfl (by kernel_rfl) (by kernel_rfl) (by kernel_rfl) (by kernel_rfl) ?_
        repeat (first | (simp -implicitDefEqProofs only [go_sem, Nat.reduceAdd, Nat.reduceMul, Nat.reduceEqDiff, Nat.reduceLT, Nat.reduceLeDiff, Nat.reduceSub, Nat.reduceBEq, reduceIte, reduceCtorEq, Int.reduceEq, Int.reduceNe, Nat.reduceBneDiff, Int.reduceLE, Int.reduceLT, Int.reduceToNat, Int.reduceAdd, Int.reduceSub, Int.reduceMul, Int.reduceNeg, T_ok3, T_agg3, T_isinfo3, T_info3, T_cells3, T_zero3, T_int3, T_ok4, T_agg4, T_isinfo4, T_info4, T_cells4, T_zero4, T_bool4, T_ok9, T_agg9, T_isinfo9, T_info9, T_cells9, T_zero9, T_str9, T_len9t, T_ok23, T_agg23, T_isinfo23, T_info23, T_cells23, T_zero23, T_build23, T_f23_0, T_p23_0, T_f23_1, T_p23_1, T_eqs23, T_ok26, T_agg26, T_isinfo26, T_info26, T_cells26, T_zero26, T_int26, T_ok29, T_agg29, T_isinfo29, T_info29, T_cells29, T_zero29, T_elem29, T_under29, T_len29s, T_len29n, T_len29b, T_ok31, T_agg31, T_isinfo31, T_info31, T_cells31, T_zero31, T_build31, T_f31_0, T_p31_0, T_f31_1, T_p31_1, T_ok79, T_agg79, T_isinfo79, T_info79, T_cells79, T_zero79, T_elem79, T_under79, T_len79s, T_len79n, T_len79b, z1, b1, g1, wPV, rI, di]) | ((with_reducible refine gcall_eq (hs) ?_ ?_ ?_); (with_reducible rfl); rfl) | ((with_reducible refine gcall_eq (hm) ?_ ?_ ?_); (with_reducible rfl); rfl) | ((with_reducible refine gcall_eq (hq) ?_ ?_ ?_); (with_reducible rfl); rfl) | ((with_reducible refine gcall_eq (hg) ?_ ?_ ?_); (with_reducible rfl); rfl) | ((with_reducible refine gcall_eq (hv2) ?_ ?_ ?_); (with_reducible rfl); rfl) | ((with_reducible refine gcall_eq (hk) ?_ ?_ ?_); (with_reducible rfl); rfl) | ((with_reducible refine gcall_eq (hfa) ?_ ?_ ?_); (with_reducible rfl); rfl) | ((with_reducible refine gcall_eq (hfb) ?_ ?_ ?_); (with_reducible rfl); rfl) | ((with_reducible refine gcall_eq (hmr) ?_ ?_ ?_); (with_reducible rfl); rfl) | ((with_reducible refine gcall_eq (hgr) ?_ ?_ ?_); (with_reducible rfl); rfl) | ((with_reducible refine gcall_eq (i1) ?_ ?_ ?_); (with_reducible rfl); rfl) | ((with_reducible refine gcall_eq (i2) ?_ ?_ ?_); (with_reducible rfl); rfl) | ((with_reducible refine gcall_eq (rs) ?_ ?_ ?_); (with_reducible rfl); rfl) | ((with_reducible refine gcall_eq (hqr) ?_ ?_ ?_); (with_reducible rfl); rfl) | ((with_reducible refine gcall_eq (i3) ?_ ?_ ?_); (with_reducible rfl); rfl) | ((with_reducible refine gcall_eq (i4) ?_ ?_ ?_); (with_reducible rfl); rfl) | (with_reducible exact drawQ_true _ _ (by kernel_rfl)) | (with_reducible refine And.intro (drawQ_true _ _ (by kernel_rfl)) ?_))
  · have e0 : (decide (a.size ≤ 60) && decide (b.size ≤ 60)) = false := by
      rw [Bool.and_eq_false_iff]; simp only [decide_eq_false_iff_not]; omega
    rw [e0] at hs
    refine sound_go (tb := []) 138 [.tmp 4] [0, 1, 2, 3, 4, 5, 6, 7, 8, 9, 10, 11, 12, 13, 14, 15, 16, 21, 47, 100, 103] mixed Tryz.func5 rfl (by kernel_rfl) (by kernel_rfl) (by kernel_rfl) (by kernel_rfl) ?_
    repeat (first | (simp -implicitDefEqProofs only [go_sem, Nat.reduceAdd, Nat.reduceMul, Nat.reduceEqDiff, Nat.reduceLT, Nat.reduceLeDiff, Nat.reduceSub, Nat.reduceBEq, reduceIte, reduceCtorEq, Int.reduceEq, Int.reduceNe, Nat.reduceBneDiff, Int.reduceLE, Int.reduceLT, Int.reduceToNat, Int.reduceAdd, Int.reduceSub, Int.reduceMul, Int.reduceNeg, T_ok3, T_agg3, T_isinfo3, T_info3, T_cells3, T_zero3, T_int3, T_ok4, T_agg4, T_isinfo4, T_info4, T_cells4, T_zero4, T_bool4, T_ok9, T_agg9, T_isinfo9, T_info9, T_cells9, T_zero9, T_str9, T_len9t, T_ok23, T_agg23, T_isinfo23, T_info23, T_cells23, T_zero23, T_build23, T_f23_0, T_p23_0, T_f23_1, T_p23_1, T_eqs23, T_ok26, T_agg26, T_isinfo26, T_info26, T_cells26, T_zero26, T_int26, T_ok29, T_agg29, T_isinfo29, T_info29, T_cells29, T_zero29, T_elem29, T_under29, T_len29s, T_len29n, T_len29b, T_ok31, T_agg31, T_isinfo31, T_info31, T_cells31, T_zero31, T_build31, T_f31_0, T_p31_0, T_f31_1, T_p31_1, T_ok79, T_agg79, T_isinfo79, T_info79, T_cells79, T_zero79, T_elem79, T_under79, T_len79s, T_len79n, T_len79b]) | ((with_reducible refine gcall_eq (hs) ?_ ?_ ?_); (with_reducible rfl); rfl) | ((with_reducible refine gcall_eq (hk) ?_ ?_ ?_); (with_reducible rfl); rfl) | (with_reducible exact drawQ_true _ _ (by kernel_rfl)) | (with_reducible refine And.intro (drawQ_true _ _ (by kernel_rfl)) ?_))
end Go.Proofs.YtkgkebhlpjenaaaGreatDoor

namespace Go.Vl
open Go.RowKit

section
variable {H : Type} {enc : TypeId × Value → H}
/-- A law, over all that it can be given; what is listed of variables is not looked at. -/
theorem law_lifted_laid {a : Assume} {C : Checked} {os : Os} {f : FuncId} {fn : Func} {s : ChangeSpec} {conds : List PathCond} {apart fresh handsOn again : Bool} {tb : TypeId} {L : List (String × DataW Unit)} (tts : List TT)
    (own : ownKnob C.prog.godebug = none) (started : os.Started) (noInit : C.prog.inits.idxOf? f = none) (hfn : C.prog.funcs[f]? = some fn)
    (witness : ∃ (w : World) (tape : Tape) (i : Input), w.os = os ∧ (w.forCall tape i).Shaped C.prog ∧ i.vars = [] ∧ Input.okWide C.prog (w.forCall tape i) .any w.heap.size f i ∧
      ((s.pre enc C.prog fn conds apart (w.forCall tape i).memory i.args ∧ laidMetH C.prog L (w.forCall tape i).memory) ∧ sizedMet enc C.prog fn (OpenSpec.ofChange s) apart (w.forCall tape i).memory i.args) ∧ a.holds C.prog (lone (Frame.enter C.prog f i.args .normal) [] (w.forCall tape i)))
    (hl : laidOutB C.prog = true) (hvars : s.vars = []) (hres : fn.resultTypes = #[tb]) (hbool : C.prog.underlying tb = some .bool) (hts : (fn.params.toList.all fun t => C.prog.readableRec t && decide (t < C.prog.types.size)) = true)
    (hfit : fitsAll C.prog tts fn.params.toList = true) (hs : ∀ ds : List (DataW H), ds.length = tts.length → s.fn H ds = { results := [.lit (.bool true)], args := ds })
    (hcl : callable C.prog f = true) (hlay : ∀ W : World, laidMetH C.prog L W → Laid C.prog W.heap.size W) (law : ∀ pvs, HasArgs tts pvs → SoundAt C.prog f pvs (.bool true)) :
    ReturnsInHanded a C os f .any (fun w args => (s.pre enc C.prog fn conds apart w args ∧ laidMetH C.prog L w) ∧ sizedMet enc C.prog fn (OpenSpec.ofChange s) apart w args) (s.post enc C.prog fn apart fresh handsOn again) := by
  refine returnsInHanded_of_change_and (X := fun w _ => laidMetH C.prog L w) (fun _ _ _ hh h => h.of_heap hh) own started noInit hfn witness ?_
  intro W base args ds gs before hval hW q1 q2 q3 q4
  have hW' := hW
  obtain ⟨p, q, hA, hV, rfl, hz, hn⟩ := hW
  rw [hvars] at hV
  obtain ⟨rfl, rfl⟩ := ChangeShapes.trodVars_none hV
  obtain ⟨pvs, h1, h2, h3⟩ := args_rep tts fn.params.toList args.toList ds p hfit (fun j t v e1 e2 => hval j t v (by simpa using e1) (by simpa using e2)) hA
  have hts' : ∀ t ∈ fn.params.toList, C.prog.readableRec t = true ∧ t < C.prog.types.size := by
    intro t ht
    have := List.all_eq_true.1 hts t ht
    simpa using this
  have hcall := ((law pvs h1).resolve_right (fun x => by rw [hcl] at x; cases x.1)).2 W (exIm W) args.toList W.heap.size (Nat.le_refl _) (hlay W (by first | exact q1 | exact q2 | exact q3 | exact q4)) h2 (fun g j x => x)
  refine (by simpa using hcall : Calls C.prog f args W _).mono ?_
  rintro e W' ⟨v, rfl, hb, hr⟩
  have hv : v = .bool true := by cases hr; rfl
  subst hv
  exact ⟨_, rfl, post_of_law hl hvars hres hbool hts' hW' (by rw [List.append_nil]; exact hs ds h3) hb⟩
end
end Go.Vl

namespace Go.Proofs.YtkgkebhlpjenaaaGreatDoor
open Go.Vl Go.RowKit

theorem own : ownKnob Tryz.prog.godebug = none := by kernel_rfl
theorem laidOut : laidOutB Tryz.prog = true := by kernel_rfl
def laidL : List (String × DataW Unit) := [("math/bits.deBruijn32tab", Rows.laid_math_bits_deBruijn32tab), ("math/bits.deBruijn64tab", Rows.laid_math_bits_deBruijn64tab), ("internal/strconv.uint64pow10", Rows.laid_internal_strconv_uint64pow10), ("strconv.ErrRange", Rows.laid_strconv_ErrRange), ("strconv.ErrSyntax", Rows.laid_strconv_ErrSyntax)]
theorem door_met (os : Os) (args : Array Value) : laidMetH Tryz.prog laidL ((World.doorLaid Tryz.prog 62 os).forCall (fun _ _ => 0) ⟨#[], args, []⟩).memory :=
  laidMetH_of_parts3 (fuel := 8) (laidMet_of_run' 8 (by kernel_rfl) (by kernel_rfl)) (by kernel_rfl) (by kernel_rfl)
theorem hlay (W : World) (h : laidMetH Tryz.prog laidL W) : Laid Tryz.prog W.heap.size W := by
  intro g hg
  obtain rfl : g = 2 := Option.some.inj (hg.symm.trans (by kernel_rfl))
  have hf := h.filter (fun x => x.1 == powName)
  have e : laidL.filter (fun x => x.1 == powName) = [(powName, Lib.tabData .u64 Lib.pow10Tab)] := by kernel_rfl
  rw [e, MakeChecks.laidMetH_plain _ _ _ (by kernel_rfl)] at hf
  have ht : Lib.TabIs Tryz.prog W powName .u64 Lib.pow10Tab := Lib.tabIs_of_head (g := 2) (t := 164) (e := 92) (n := 20) (by kernel_rfl) (by kernel_rfl) (by kernel_rfl) (by kernel_rfl) (by kernel_rfl) (by kernel_rfl) hf
  have e2 : (Lib.pow10Tab.map fun z => Value.int .u64 z).toArray = powTab := by kernel_rfl
  unfold Lib.TabIs at ht
  rw [e2] at ht
  refine ⟨?_, ht⟩
  simp only [World.var?, hg, Option.bind_some] at ht
  cases hh : W.heap[(2 : Nat)]? with
  | none => rw [hh] at ht; cases ht
  | some o => exact (Array.getElem?_eq_some_iff.1 hh).1
def wideT : TT := .agg [.bool, .str]
theorem wideT_inv {c : List PV} (h : HasTT wideT c) : ∃ (n : Bool) (s : ByteArray), wideT.mk c = .agg [.bool n, .str s] ∧ s.size ≤ maxLen := by
  simp only [wideT, HasTT, HasTTs] at h
  obtain ⟨_, _, rfl, ⟨n, rfl⟩, _, _, rfl, ⟨s, rfl, hs⟩, rfl⟩ := h
  exact ⟨n, s, rfl, hs⟩
theorem intT_inv {k : IntKind} {c : List PV} (h : HasTT (.int k) c) : ∃ n : Int, TT.mk (.int k) c = .int k n ∧ (Lit.int k n).wf = true := by
  simp only [HasTT] at h
  obtain ⟨x, rfl, hx⟩ := h
  exact ⟨x, rfl, hx⟩
theorem i64_bounds {n : Int} (h : (Lit.int .i64 n).wf = true) : -9223372036854775808 ≤ n ∧ n ≤ 9223372036854775807 := by
  have := h
  simp [Lit.wf, IntKind.min, IntKind.max, IntKind.signed, IntKind.bits] at this
  omega
theorem boolT_inv {c : List PV} (h : HasTT .bool c) : ∃ b : Bool, TT.mk .bool c = .bool b := by
  simp only [HasTT] at h
  obtain ⟨b, rfl⟩ := h
  exact ⟨b, rfl⟩
theorem strT_inv {c : List PV} (h : HasTT .str c) : ∃ s : ByteArray, TT.mk .str c = .str s ∧ s.size ≤ maxLen := by
  simp only [HasTT] at h
  obtain ⟨s, rfl, hs⟩ := h
  exact ⟨s, rfl, hs⟩
def ratioT : TT := .agg [.bool, .str, .bool, .str]
theorem ratioT_inv {c : List PV} (h : HasTT ratioT c) : ∃ (n : Bool) (s : ByteArray) (m : Bool) (t : ByteArray), ratioT.mk c = .agg [.bool n, .str s, .bool m, .str t] ∧ s.size ≤ maxLen := by
  simp only [ratioT, HasTT, HasTTs] at h
  obtain ⟨_, _, rfl, ⟨n, rfl⟩, _, _, rfl, ⟨s, rfl, hs⟩, _, _, rfl, ⟨m, rfl⟩, _, _, rfl, ⟨t, rfl, ht⟩, rfl⟩ := h
  exact ⟨n, s, m, t, rfl, hs⟩
def zeroRatio : Value := .agg #[.bool false, .string ⟨#[]⟩, .bool false, .string ⟨#[]⟩]
def zeroWide : Value := .agg #[.bool false, .string ⟨#[]⟩]
end Go.Proofs.YtkgkebhlpjenaaaGreatDoor
