/-
  The walk's rules, for simp.
-/
import Derived.Test.YtkajnimlfehmeaaUS
import Derived.Attr
set_option linter.unusedSimpArgs false
set_option linter.unusedVariables false
namespace Go.Vl
theorem rng_1 : List.range 1 = [0] := rfl
theorem rng_2 : List.range 2 = [0, 1] := rfl
theorem rng_3 : List.range 3 = [0, 1, 2] := rfl
theorem rng_4 : List.range 4 = [0, 1, 2, 3] := rfl
theorem rng_5 : List.range 5 = [0, 1, 2, 3, 4] := rfl
theorem rng_6 : List.range 6 = [0, 1, 2, 3, 4, 5] := rfl
theorem rng_7 : List.range 7 = [0, 1, 2, 3, 4, 5, 6] := rfl
theorem rng_8 : List.range 8 = [0, 1, 2, 3, 4, 5, 6, 7] := rfl
section
variable (cs : List PV) (b : Bool) (k : IntKind) (n : Int) (s : ByteArray) (e i o l : Nat) (f : FuncId) (a c : List PV)
theorem c_agg : (PV.agg cs).cells = cs := rfl
theorem c_bool : (PV.bool b).cells = [.bool b] := rfl
theorem c_int : (PV.int k n).cells = [.int k n] := rfl
theorem c_str : (PV.str s).cells = [.str s] := rfl
theorem c_nilS : PV.nilS.cells = [.nilS] := rfl
theorem c_nilF : PV.nilF.cells = [.nilF] := rfl
theorem c_slc : (PV.slc cs).cells = [.slc cs] := rfl
theorem c_tup : (PV.tup cs).cells = [.tup cs] := rfl
theorem c_rp : (PV.rp cs).cells = [.rp cs] := rfl
theorem c_bp : (PV.bp e i o l).cells = [.bp e i o l] := rfl
theorem c_bs : (PV.bs e i o l).cells = [.bs e i o l] := rfl
theorem c_fn : (PV.fn f a c).cells = [.fn f a c] := rfl
theorem k_agg : (PV.agg cs).okCell = false := rfl
theorem k_bool : (PV.bool b).okCell = true := rfl
theorem k_int : (PV.int k n).okCell = true := rfl
theorem k_str : (PV.str s).okCell = true := rfl
theorem k_nilS : PV.nilS.okCell = true := rfl
theorem k_nilF : PV.nilF.okCell = true := rfl
theorem k_slc : (PV.slc cs).okCell = true := rfl
theorem k_tup : (PV.tup cs).okCell = false := rfl
theorem k_rp : (PV.rp cs).okCell = true := rfl
theorem k_bp : (PV.bp e i o l).okCell = true := rfl
theorem k_bs : (PV.bs e i o l).okCell = true := rfl
theorem k_fn : (PV.fn f a c).okCell = true := rfl
end
attribute [go_sem] c_agg c_bool c_int c_str c_nilS c_nilF c_slc c_tup c_rp c_bp c_bs c_fn k_agg k_bool k_int k_str k_nilS k_nilF k_slc k_tup k_rp k_bp k_bs k_fn Int.toNat_natCast Int.toNat_zero Int.le_refl
theorem o_call0 (P : Program) (id : Nat) (bx : Bx) (fo : Operand) (as : Array Operand) (ts : Array TypeId) (f : FuncId) (first cap args : List PV) : opVal P [] id (.call ⟨.value fo, as, ts⟩) (.fn f first cap :: args) bx =
    M.bind (escCL first) (fun x => .bind (esc1L args) fun y => .bind (escCL cap) fun z => .pure (.call f (x.1 ++ y.1 ++ z.1) (x.2 ++ y.2 ++ z.2))) bx := rfl
attribute [go_sem] o_call0
theorem toArr_none : (none : Option Operand).toArray = #[] := rfl
theorem toArr_some (x : Operand) : (some x).toArray = #[x] := rfl
attribute [go_sem] toArr_none toArr_some List.range_zero Nat.le_refl Nat.zero_le
attribute [go_sem] g_nil g_blk g_again g_skip g_label g_seq g_block g_exit gexit_blk gexit_code gexit_again gexit_nil
attribute [go_sem] g_ret g_cond gcond_true gcond_false g_region gops_nil gops_cons gwanted_false gwanted_true gvals_some gout_done gout_call
attribute [go_sem] gout_callB gout_yield gland_some drawQ_false vret_ret vret_normal backB_some o_move o_assign o_nilCheck_bp o_nilCheck_rp o_nilCheck_fn
attribute [go_sem] o_pick_t o_pick_f o_alloc o_box o_build o_buildSlice o_load_bp o_load_rp o_store o_bin o_not o_neg
attribute [go_sem] o_conv o_makeFunc o_makeSlice o_slice0 o_slice1 o_slice2 o_slice3 o_fieldAddr_bp o_fieldAddr_rp o_field o_indexAddr_bp o_indexAddr_rp
attribute [go_sem] o_indexAddr_bs o_indexAddr_slc o_index_agg o_index_str o_extract o_len o_append o_max o_min o_call o_lend o_copy
attribute [go_sem] o_clear o_yld b_add b_sub b_mul b_quo b_rem b_and b_or b_eql b_neq b_lss
attribute [go_sem] b_leq b_gtr b_geq b_shl b_shr b_str b_beq b_bne dstOk wantedPV guardTmp St.evs
attribute [go_sem] St.ev Op.operands Call.operands M.bind M.pure M.ofOpt M.ok M.soft M.hard of_put of_put_none of_var
attribute [go_sem] of_box of_setBox of_keep keepVars lkp constPV constCell constCells initVars effsOn_nil effsOn_cons Eff.on
attribute [go_sem] effAcc Eff.id Eff.hard resPV resCells resCell tupOf esc0 escL escC escCL esc1
attribute [go_sem] esc1L partPV Vl.newVar okCells    PV.putCells PV.one flatPV flat1 flat0 Box.soft
attribute [go_sem] List.toList_toArray List.getElem?_toArray List.getElem?_cons_zero List.getElem?_cons_succ Option.bind_some Option.map_some Option.bind_none Option.map_none List.map_cons List.map_nil List.append_nil List.nil_append
attribute [go_sem] List.cons_append decide_true decide_false if_true if_false true_and and_true Bool.and_true Bool.true_and Bool.and_self beq_self_eq_true List.all_cons
attribute [go_sem] List.all_nil List.length_cons List.length_nil Nat.zero_add Nat.add_zero Nat.zero_mul List.drop_zero List.contains_cons gt_iff_lt ge_iff_le Option.isNone_none Option.isNone_some
attribute [go_sem] Array.toList_empty Array.append_empty Array.empty_append List.size_toArray List.take_zero List.push_toArray List.append_toArray Option.isSome_some Option.isSome_none List.drop_succ_cons List.take_succ_cons List.take_nil
attribute [go_sem] List.drop_nil List.getElem_cons_zero List.getElem_cons_succ Nat.not_lt_zero Bool.false_eq_true Bool.true_eq_false not_true_eq_false not_false_eq_true if_neg Nat.lt_irrefl Bool.not_true Bool.not_false
attribute [go_sem] Bool.and_false Bool.false_and Bool.or_false Bool.or_true Bool.false_or Bool.true_or List.flatMap_cons List.flatMap_nil List.set_cons_zero List.set_cons_succ beq_true beq_false
attribute [go_sem] Bool.true_beq Bool.false_beq eq_self Bool.not_not ite_self ne_eq of_yld of_out of_yl slicePV boundsPV appendPV
attribute [go_sem] fillPV minMax shiftInt convM convPV isBytes copyPV clearPV Box.over eqCells lendCall lendL
attribute [go_sem] lend1 lentBoxes freeIds okMap rlk land landBoxes ren0 ren0L ren1 ren1L ren2
attribute [go_sem] flatB flatr flatr0 flatr1 flatc extCell Box.ext LENT YID List.zip_cons_cons List.zip_nil_left List.zip_nil_right
attribute [go_sem] rng_1 rng_2 rng_3 rng_4 rng_5 rng_6 rng_7 rng_8 Option.getD_some Option.getD_none

section
variable {vs vs' : List (Nat × PV)} {bs bs' : List (Nat × Box)} {o : List (List PV)} {y : Option (Nat × Nat)}
theorem le_nilG (t b esz : Nat) (ety : TypeId) (hbL : Nat.blt b LENT = true) (ht : lkp vs t = some .nilS) (hb : lkp bs b = none) (hz : 0 < esz) :
    Le (St.ofG vs bs o y) (St.ofG ((t, .bs b esz 0 0) :: vs) ((b, { els := [], esz := esz, ety := ety, fro := 0, live := true, arr := true }) :: bs) o y) := le_nil hbL ht hb hz
/-- A loop is come to with a slice that is nil. -/
theorem le_nil1 (t b esz : Nat) (ety : TypeId) (hbL : Nat.blt b LENT = true) (ht : lkp vs t = some .nilS) (hb : lkp bs b = none) (hz : 0 < esz) (θ : List (Nat × Nat)) (hθ : okTheta θ bs' = true)
    (hv : varsLe θ ((t, .bs b esz 0 0) :: vs) vs') (hbx : boxesLe θ ((b, { els := [], esz := esz, ety := ety, fro := 0, live := true, arr := true }) :: bs) bs') : Le (St.ofG vs bs o y) (St.ofG vs' bs' o y) :=
  (le_nilG t b esz ety hbL ht hb hz).trans (le_of hθ hv hbx)
end
end Go.Vl
