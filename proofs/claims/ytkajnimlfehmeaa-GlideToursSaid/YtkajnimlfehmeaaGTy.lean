/-
  What the walks want to know of the types. Written by a program.
-/
import Derived.Test.YtkajnimlfehmeaaUV
import Derived.Test.YtkajnimlfehmeaaProg
set_option linter.unusedSimpArgs false
set_option linter.unusedVariables false
namespace Go.Proofs.Ytkajnimlfehmeaa
open Go.Vl

theorem mixed : Try.prog.follows .mixedOrders = true := by kernel_rfl
theorem T_ok3 : tyOk Try.prog 3 = true := by kernel_rfl
theorem T_agg3 : tyAgg Try.prog 3 = false := by kernel_rfl
theorem T_isinfo3 : (Try.prog.info? 3).isSome = true := by kernel_rfl
theorem T_info3 : tyInfo Try.prog 3 = some (1, 8) := by kernel_rfl
theorem T_cells3 : Try.prog.cellsOf 3 = 1 := by kernel_rfl
theorem T_zero3 : zeroPV Try.prog 3 = some (PV.int IntKind.i64 0) := by kernel_rfl
theorem T_int3 : Try.prog.underlying 3 = some (.int .i64) := by kernel_rfl
theorem T_ok4 : tyOk Try.prog 4 = true := by kernel_rfl
theorem T_agg4 : tyAgg Try.prog 4 = false := by kernel_rfl
theorem T_isinfo4 : (Try.prog.info? 4).isSome = true := by kernel_rfl
theorem T_info4 : tyInfo Try.prog 4 = some (1, 1) := by kernel_rfl
theorem T_cells4 : Try.prog.cellsOf 4 = 1 := by kernel_rfl
theorem T_zero4 : zeroPV Try.prog 4 = some (PV.bool Bool.false) := by kernel_rfl
theorem T_bool4 : Try.prog.underlying 4 = some .bool := by kernel_rfl
theorem T_ok23 : tyOk Try.prog 23 = true := by kernel_rfl
theorem T_agg23 : tyAgg Try.prog 23 = true := by kernel_rfl
theorem T_isinfo23 : (Try.prog.info? 23).isSome = true := by kernel_rfl
theorem T_info23 : tyInfo Try.prog 23 = some (3, 24) := by kernel_rfl
theorem T_cells23 : Try.prog.cellsOf 23 = 3 := by kernel_rfl
theorem T_zero23 : zeroPV Try.prog 23 = some (PV.agg [PV.int IntKind.i64 0, PV.int IntKind.i64 0, PV.int IntKind.i64 0]) := by kernel_rfl
theorem T_build23 : buildable Try.prog 23 = true := by kernel_rfl
theorem T_f23_0 : tyField Try.prog 23 0 = some (0, 3, 1) := by kernel_rfl
theorem T_p23_0 : placePV Try.prog 23 0 = some (0, 1) := by kernel_rfl
theorem T_f23_1 : tyField Try.prog 23 1 = some (1, 3, 1) := by kernel_rfl
theorem T_p23_1 : placePV Try.prog 23 1 = some (1, 1) := by kernel_rfl
theorem T_f23_2 : tyField Try.prog 23 2 = some (2, 3, 1) := by kernel_rfl
theorem T_p23_2 : placePV Try.prog 23 2 = some (2, 1) := by kernel_rfl
theorem T_eqs23 : eqShapeS Try.prog 23 = some [1, 1, 1] := by kernel_rfl
theorem T_ok25 : tyOk Try.prog 25 = true := by kernel_rfl
theorem T_agg25 : tyAgg Try.prog 25 = false := by kernel_rfl
theorem T_isinfo25 : (Try.prog.info? 25).isSome = true := by kernel_rfl
theorem T_info25 : tyInfo Try.prog 25 = some (1, 24) := by kernel_rfl
theorem T_cells25 : Try.prog.cellsOf 25 = 1 := by kernel_rfl
theorem T_zero25 : zeroPV Try.prog 25 = some PV.nilS := by kernel_rfl
theorem T_elem25 : tyElem Try.prog 25 = some 56 := by kernel_rfl
theorem T_under25 : Try.prog.underlying 25 = some (.slice 56) := by kernel_rfl
theorem T_len25s (es : List PV) : lenPV Try.prog 25 (.slc es) = some (.int .i64 es.length) := by simp only [lenPV, T_under25]
theorem T_len25n  : lenPV Try.prog 25 .nilS = some (.int .i64 0) := by simp only [lenPV, T_under25]
theorem T_len25b (b e o n : Nat) : lenPV Try.prog 25 (.bs b e o n) = some (.int .i64 n) := by simp only [lenPV, T_under25]
theorem T_ok26 : tyOk Try.prog 26 = true := by kernel_rfl
theorem T_agg26 : tyAgg Try.prog 26 = false := by kernel_rfl
theorem T_isinfo26 : (Try.prog.info? 26).isSome = true := by kernel_rfl
theorem T_info26 : tyInfo Try.prog 26 = some (1, 8) := by kernel_rfl
theorem T_cells26 : Try.prog.cellsOf 26 = 1 := by kernel_rfl
theorem T_zero26 : zeroPV Try.prog 26 = some (PV.int IntKind.i64 0) := by kernel_rfl
theorem T_int26 : Try.prog.underlying 26 = some (.int .i64) := by kernel_rfl
theorem T_ok35 : tyOk Try.prog 35 = true := by kernel_rfl
theorem T_agg35 : tyAgg Try.prog 35 = false := by kernel_rfl
theorem T_isinfo35 : (Try.prog.info? 35).isSome = true := by kernel_rfl
theorem T_info35 : tyInfo Try.prog 35 = some (1, 24) := by kernel_rfl
theorem T_cells35 : Try.prog.cellsOf 35 = 1 := by kernel_rfl
theorem T_zero35 : zeroPV Try.prog 35 = some PV.nilS := by kernel_rfl
theorem T_elem35 : tyElem Try.prog 35 = some 23 := by kernel_rfl
theorem T_under35 : Try.prog.underlying 35 = some (.slice 23) := by kernel_rfl
theorem T_len35s (es : List PV) : lenPV Try.prog 35 (.slc es) = some (.int .i64 es.length) := by simp only [lenPV, T_under35]
theorem T_len35n  : lenPV Try.prog 35 .nilS = some (.int .i64 0) := by simp only [lenPV, T_under35]
theorem T_len35b (b e o n : Nat) : lenPV Try.prog 35 (.bs b e o n) = some (.int .i64 n) := by simp only [lenPV, T_under35]
theorem T_ok36 : tyOk Try.prog 36 = true := by kernel_rfl
theorem T_agg36 : tyAgg Try.prog 36 = false := by kernel_rfl
theorem T_isinfo36 : (Try.prog.info? 36).isSome = true := by kernel_rfl
theorem T_info36 : tyInfo Try.prog 36 = some (1, 24) := by kernel_rfl
theorem T_cells36 : Try.prog.cellsOf 36 = 1 := by kernel_rfl
theorem T_zero36 : zeroPV Try.prog 36 = some PV.nilS := by kernel_rfl
theorem T_elem36 : tyElem Try.prog 36 = some 3 := by kernel_rfl
theorem T_under36 : Try.prog.underlying 36 = some (.slice 3) := by kernel_rfl
theorem T_len36s (es : List PV) : lenPV Try.prog 36 (.slc es) = some (.int .i64 es.length) := by simp only [lenPV, T_under36]
theorem T_len36n  : lenPV Try.prog 36 .nilS = some (.int .i64 0) := by simp only [lenPV, T_under36]
theorem T_len36b (b e o n : Nat) : lenPV Try.prog 36 (.bs b e o n) = some (.int .i64 n) := by simp only [lenPV, T_under36]
theorem T_ok44 : tyOk Try.prog 44 = true := by kernel_rfl
theorem T_agg44 : tyAgg Try.prog 44 = true := by kernel_rfl
theorem T_isinfo44 : (Try.prog.info? 44).isSome = true := by kernel_rfl
theorem T_info44 : tyInfo Try.prog 44 = some (2, 16) := by kernel_rfl
theorem T_cells44 : Try.prog.cellsOf 44 = 2 := by kernel_rfl
theorem T_zero44 : zeroPV Try.prog 44 = some (PV.agg [PV.int IntKind.i64 0, PV.int IntKind.i64 0]) := by kernel_rfl
theorem T_build44 : buildable Try.prog 44 = true := by kernel_rfl
theorem T_f44_0 : tyField Try.prog 44 0 = some (0, 3, 1) := by kernel_rfl
theorem T_p44_0 : placePV Try.prog 44 0 = some (0, 1) := by kernel_rfl
theorem T_f44_1 : tyField Try.prog 44 1 = some (1, 3, 1) := by kernel_rfl
theorem T_p44_1 : placePV Try.prog 44 1 = some (1, 1) := by kernel_rfl
theorem T_eqs44 : eqShapeS Try.prog 44 = some [1, 1] := by kernel_rfl
theorem T_ok52 : tyOk Try.prog 52 = true := by kernel_rfl
theorem T_agg52 : tyAgg Try.prog 52 = false := by kernel_rfl
theorem T_isinfo52 : (Try.prog.info? 52).isSome = true := by kernel_rfl
theorem T_info52 : tyInfo Try.prog 52 = some (1, 8) := by kernel_rfl
theorem T_cells52 : Try.prog.cellsOf 52 = 1 := by kernel_rfl
theorem T_zero52 : zeroPV Try.prog 52 = some (PV.int IntKind.i64 0) := by kernel_rfl
theorem T_int52 : Try.prog.underlying 52 = some (.int .i64) := by kernel_rfl
theorem T_ok56 : tyOk Try.prog 56 = true := by kernel_rfl
theorem T_agg56 : tyAgg Try.prog 56 = true := by kernel_rfl
theorem T_isinfo56 : (Try.prog.info? 56).isSome = true := by kernel_rfl
theorem T_info56 : tyInfo Try.prog 56 = some (6, 96) := by kernel_rfl
theorem T_cells56 : Try.prog.cellsOf 56 = 6 := by kernel_rfl
theorem T_zero56 : zeroPV Try.prog 56 = some (PV.agg [PV.int IntKind.i64 0, PV.int IntKind.i64 0, PV.int IntKind.i64 0, PV.nilS, PV.nilS, PV.nilS]) := by kernel_rfl
theorem T_build56 : buildable Try.prog 56 = true := by kernel_rfl
theorem T_f56_0 : tyField Try.prog 56 0 = some (0, 3, 1) := by kernel_rfl
theorem T_p56_0 : placePV Try.prog 56 0 = some (0, 1) := by kernel_rfl
theorem T_f56_1 : tyField Try.prog 56 1 = some (1, 3, 1) := by kernel_rfl
theorem T_p56_1 : placePV Try.prog 56 1 = some (1, 1) := by kernel_rfl
theorem T_f56_2 : tyField Try.prog 56 2 = some (2, 3, 1) := by kernel_rfl
theorem T_p56_2 : placePV Try.prog 56 2 = some (2, 1) := by kernel_rfl
theorem T_f56_3 : tyField Try.prog 56 3 = some (3, 36, 1) := by kernel_rfl
theorem T_p56_3 : placePV Try.prog 56 3 = some (3, 1) := by kernel_rfl
theorem T_f56_4 : tyField Try.prog 56 4 = some (4, 36, 1) := by kernel_rfl
theorem T_p56_4 : placePV Try.prog 56 4 = some (4, 1) := by kernel_rfl
theorem T_f56_5 : tyField Try.prog 56 5 = some (5, 36, 1) := by kernel_rfl
theorem T_p56_5 : placePV Try.prog 56 5 = some (5, 1) := by kernel_rfl
theorem T_ok66 : tyOk Try.prog 66 = true := by kernel_rfl
theorem T_agg66 : tyAgg Try.prog 66 = false := by kernel_rfl
theorem T_isinfo66 : (Try.prog.info? 66).isSome = true := by kernel_rfl
theorem T_info66 : tyInfo Try.prog 66 = some (1, 8) := by kernel_rfl
theorem T_cells66 : Try.prog.cellsOf 66 = 1 := by kernel_rfl
theorem T_zero66 : zeroPV Try.prog 66 = some (PV.int IntKind.u64 0) := by kernel_rfl
theorem T_int66 : Try.prog.underlying 66 = some (.int .u64) := by kernel_rfl
theorem T_ok68 : tyOk Try.prog 68 = true := by kernel_rfl
theorem T_agg68 : tyAgg Try.prog 68 = true := by kernel_rfl
theorem T_isinfo68 : (Try.prog.info? 68).isSome = true := by kernel_rfl
theorem T_info68 : tyInfo Try.prog 68 = some (2, 16) := by kernel_rfl
theorem T_cells68 : Try.prog.cellsOf 68 = 2 := by kernel_rfl
theorem T_zero68 : zeroPV Try.prog 68 = some (PV.agg [PV.int IntKind.u64 0, PV.int IntKind.u64 0]) := by kernel_rfl
theorem T_build68 : buildable Try.prog 68 = true := by kernel_rfl
theorem T_f68_0 : tyField Try.prog 68 0 = some (0, 66, 1) := by kernel_rfl
theorem T_p68_0 : placePV Try.prog 68 0 = some (0, 1) := by kernel_rfl
theorem T_f68_1 : tyField Try.prog 68 1 = some (1, 66, 1) := by kernel_rfl
theorem T_p68_1 : placePV Try.prog 68 1 = some (1, 1) := by kernel_rfl
theorem T_eqs68 : eqShapeS Try.prog 68 = some [1, 1] := by kernel_rfl
theorem T_ok71 : tyOk Try.prog 71 = true := by kernel_rfl
theorem T_agg71 : tyAgg Try.prog 71 = false := by kernel_rfl
theorem T_isinfo71 : (Try.prog.info? 71).isSome = true := by kernel_rfl
theorem T_info71 : tyInfo Try.prog 71 = some (1, 8) := by kernel_rfl
theorem T_cells71 : Try.prog.cellsOf 71 = 1 := by kernel_rfl
theorem T_zero71 : zeroPV Try.prog 71 = some PV.nilF := by kernel_rfl
theorem T_ok74 : tyOk Try.prog 74 = true := by kernel_rfl
theorem T_agg74 : tyAgg Try.prog 74 = true := by kernel_rfl
theorem T_isinfo74 : (Try.prog.info? 74).isSome = true := by kernel_rfl
theorem T_info74 : tyInfo Try.prog 74 = some (2, 32) := by kernel_rfl
theorem T_cells74 : Try.prog.cellsOf 74 = 2 := by kernel_rfl
theorem T_zero74 : zeroPV Try.prog 74 = some (PV.agg [PV.bool Bool.false, PV.nilS]) := by kernel_rfl
theorem T_build74 : buildable Try.prog 74 = true := by kernel_rfl
theorem T_f74_0 : tyField Try.prog 74 0 = some (0, 4, 1) := by kernel_rfl
theorem T_p74_0 : placePV Try.prog 74 0 = some (0, 1) := by kernel_rfl
theorem T_f74_1 : tyField Try.prog 74 1 = some (1, 36, 1) := by kernel_rfl
theorem T_p74_1 : placePV Try.prog 74 1 = some (1, 1) := by kernel_rfl
theorem T_ok84 : tyOk Try.prog 84 = true := by kernel_rfl
theorem T_agg84 : tyAgg Try.prog 84 = false := by kernel_rfl
theorem T_isinfo84 : (Try.prog.info? 84).isSome = true := by kernel_rfl
theorem T_info84 : tyInfo Try.prog 84 = some (1, 8) := by kernel_rfl
theorem T_cells84 : Try.prog.cellsOf 84 = 1 := by kernel_rfl
theorem T_zero84 : zeroPV Try.prog 84 = some PV.nilF := by kernel_rfl
theorem T_ok91 : tyOk Try.prog 91 = true := by kernel_rfl
theorem T_agg91 : tyAgg Try.prog 91 = false := by kernel_rfl
theorem T_isinfo91 : (Try.prog.info? 91).isSome = true := by kernel_rfl
theorem T_info91 : tyInfo Try.prog 91 = some (1, 8) := by kernel_rfl
theorem T_cells91 : Try.prog.cellsOf 91 = 1 := by kernel_rfl
theorem T_ok97 : tyOk Try.prog 97 = true := by kernel_rfl
theorem T_agg97 : tyAgg Try.prog 97 = false := by kernel_rfl
theorem T_isinfo97 : (Try.prog.info? 97).isSome = true := by kernel_rfl
theorem T_info97 : tyInfo Try.prog 97 = some (1, 8) := by kernel_rfl
theorem T_cells97 : Try.prog.cellsOf 97 = 1 := by kernel_rfl
theorem T_zero97 : zeroPV Try.prog 97 = some (PV.int IntKind.u64 0) := by kernel_rfl
theorem T_int97 : Try.prog.underlying 97 = some (.int .u64) := by kernel_rfl
end Go.Proofs.Ytkajnimlfehmeaa
