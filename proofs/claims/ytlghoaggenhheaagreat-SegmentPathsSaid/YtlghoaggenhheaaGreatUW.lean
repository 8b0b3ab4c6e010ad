/-
  PTy, Dg, PA1, Dn, PA2, Dm, PA3, PA4, PA5, UW (merged for the claim).
-/
import Derived.Test.YtlghoaggenhheaaGreatUV
import Derived.Test.YtlghoaggenhheaaGreatProg
set_option linter.unusedSimpArgs false
set_option linter.unusedVariables false
namespace Go.Proofs.YtlghoaggenhheaaGreat
open Go.Vl
theorem mixed:Tryz.prog.follows .mixedOrders=true:=by kernel_rfl
theorem Zln:Tryz.prog.underlying 9=some .string:=by kernel_rfl
theorem Zn6 (s:ByteArray):Qbq Tryz.prog 9 (.str s)=some (.int .i64 s.size):=by simp only [Qbq,Zln]
theorem Qj6:Tryz.prog.underlying 23=some (.slice 28):=by kernel_rfl
theorem Zeh (es:List PV):Qbq Tryz.prog 23 (.slc es)=some (.int .i64 es.length):=by simp only [Qbq,Qj6]
theorem Zei:Qbq Tryz.prog 23 .nilS=some (.int .i64 0):=by simp only [Qbq,Qj6]
theorem Zej (b e o n:Nat):Qbq Tryz.prog 23 (.bs b e o n)=some (.int .i64 n):=by simp only [Qbq,Qj6]
theorem Tc0:tyOk Tryz.prog 3=true∧Qbw Tryz.prog 3=false∧(Tryz.prog.info? 3).isSome=true∧Qa4 Tryz.prog 3=some (1,8)∧Tryz.prog.cellsOf 3=1∧Qbd Tryz.prog 3=some (PV.int IntKind.i64 0)∧Tryz.prog.underlying 3=some (.int .i64)∧tyOk Tryz.prog 4=true∧Qbw Tryz.prog 4=false∧(Tryz.prog.info? 4).isSome=true∧Qa4 Tryz.prog 4=some (1,1)∧Tryz.prog.cellsOf 4=1∧Qbd Tryz.prog 4=some (PV.bool Bool.false)∧Tryz.prog.underlying 4=some .bool∧tyOk Tryz.prog 5=true∧Qbw Tryz.prog 5=false∧(Tryz.prog.info? 5).isSome=true∧Qa4 Tryz.prog 5=some (1,1)∧Tryz.prog.cellsOf 5=1∧Qbd Tryz.prog 5=some (PV.int IntKind.u8 0)∧Tryz.prog.underlying 5=some (.int .u8)∧tyOk Tryz.prog 9=true∧Qbw Tryz.prog 9=false∧(Tryz.prog.info? 9).isSome=true∧Qa4 Tryz.prog 9=some (1,16)∧Tryz.prog.cellsOf 9=1∧Qbd Tryz.prog 9=some (PV.str {data:={toList:=[]}})∧tyOk Tryz.prog 23=true∧Qbw Tryz.prog 23=false∧(Tryz.prog.info? 23).isSome=true∧Qa4 Tryz.prog 23=some (1,24)∧Tryz.prog.cellsOf 23=1∧Qbd Tryz.prog 23=some PV.nilS∧Qb4 Tryz.prog 23=some 28∧tyOk Tryz.prog 26=true∧Qbw Tryz.prog 26=false∧(Tryz.prog.info? 26).isSome=true∧Qa4 Tryz.prog 26=some (1,24)∧Tryz.prog.cellsOf 26=1∧Qbd Tryz.prog 26=some PV.nilS:=by repeat' (first | kernel_rfl | constructor)
theorem Qj7:Tryz.prog.underlying 26=some (.slice 3):=by kernel_rfl
theorem Zen (es:List PV):Qbq Tryz.prog 26 (.slc es)=some (.int .i64 es.length):=by simp only [Qbq,Qj7]
theorem Zeo:Qbq Tryz.prog 26 .nilS=some (.int .i64 0):=by simp only [Qbq,Qj7]
theorem Zep (b e o n:Nat):Qbq Tryz.prog 26 (.bs b e o n)=some (.int .i64 n):=by simp only [Qbq,Qj7]
theorem Tc1:Qb4 Tryz.prog 26=some 3∧tyOk Tryz.prog 28=true∧Qbw Tryz.prog 28=true∧(Tryz.prog.info? 28).isSome=true∧Qa4 Tryz.prog 28=some (6,96)∧Tryz.prog.cellsOf 28=6∧Qbd Tryz.prog 28=some (PV.agg [PV.int IntKind.i64 0,PV.int IntKind.i64 0,PV.int IntKind.i64 0,PV.nilS,PV.nilS,PV.nilS])∧buildable Tryz.prog 28=true∧Qbi Tryz.prog 28 0=some (0,3,1)∧Qaf Tryz.prog 28 0=some (0,1)∧Qbi Tryz.prog 28 1=some (1,3,1)∧Qaf Tryz.prog 28 1=some (1,1)∧Qbi Tryz.prog 28 2=some (2,3,1)∧Qaf Tryz.prog 28 2=some (2,1)∧Qbi Tryz.prog 28 3=some (3,26,1)∧Qaf Tryz.prog 28 3=some (3,1)∧Qbi Tryz.prog 28 4=some (4,26,1)∧Qaf Tryz.prog 28 4=some (4,1)∧Qbi Tryz.prog 28 5=some (5,26,1)∧Qaf Tryz.prog 28 5=some (5,1)∧tyOk Tryz.prog 30=true∧Qbw Tryz.prog 30=false∧(Tryz.prog.info? 30).isSome=true∧Qa4 Tryz.prog 30=some (1,8)∧Tryz.prog.cellsOf 30=1∧Qbd Tryz.prog 30=some (PV.int IntKind.i64 0)∧Tryz.prog.underlying 30=some (.int .i64)∧tyOk Tryz.prog 38=true∧Qbw Tryz.prog 38=true∧(Tryz.prog.info? 38).isSome=true∧Qa4 Tryz.prog 38=some (3,24)∧Tryz.prog.cellsOf 38=3∧Qbd Tryz.prog 38=some (PV.agg [PV.int IntKind.i64 0,PV.int IntKind.i64 0,PV.int IntKind.i64 0])∧buildable Tryz.prog 38=true∧Qbi Tryz.prog 38 0=some (0,3,1)∧Qaf Tryz.prog 38 0=some (0,1)∧Qbi Tryz.prog 38 1=some (1,3,1)∧Qaf Tryz.prog 38 1=some (1,1)∧Qbi Tryz.prog 38 2=some (2,3,1)∧Qaf Tryz.prog 38 2=some (2,1):=by repeat' (first | kernel_rfl | constructor)
theorem Tc2:Qdy Tryz.prog 38=some [1,1,1]∧tyOk Tryz.prog 45=true∧Qbw Tryz.prog 45=false∧(Tryz.prog.info? 45).isSome=true∧Qa4 Tryz.prog 45=some (1,8)∧Tryz.prog.cellsOf 45=1∧Qbd Tryz.prog 45=some PV.nilF∧tyOk Tryz.prog 51=true∧Qbw Tryz.prog 51=true∧(Tryz.prog.info? 51).isSome=true∧Qa4 Tryz.prog 51=some (2,24)∧Tryz.prog.cellsOf 51=2∧Qbd Tryz.prog 51=some (PV.agg [PV.bool Bool.false,PV.str {data:={toList:=[]}}])∧buildable Tryz.prog 51=true∧Qbi Tryz.prog 51 0=some (0,4,1)∧Qaf Tryz.prog 51 0=some (0,1)∧Qbi Tryz.prog 51 1=some (1,9,1)∧Qaf Tryz.prog 51 1=some (1,1)∧Qdy Tryz.prog 51=some [0,2]∧tyOk Tryz.prog 53=true∧Qbw Tryz.prog 53=true∧(Tryz.prog.info? 53).isSome=true∧Qa4 Tryz.prog 53=some (8,96)∧Tryz.prog.cellsOf 53=8∧Qbd Tryz.prog 53=some (PV.agg [PV.bool Bool.false,PV.str {data:={toList:=[]}},PV.bool Bool.false,PV.str {data:={toList:=[]}},PV.bool Bool.false,PV.str {data:={toList:=[]}},PV.bool Bool.false,PV.str {data:={toList:=[]}}])∧buildable Tryz.prog 53=true∧Qbi Tryz.prog 53 0=some (0,51,2)∧Qaf Tryz.prog 53 0=some (0,2)∧Qbi Tryz.prog 53 1=some (2,51,2)∧Qaf Tryz.prog 53 1=some (2,2)∧Qbi Tryz.prog 53 2=some (4,51,2)∧Qaf Tryz.prog 53 2=some (4,2)∧Qbi Tryz.prog 53 3=some (6,51,2)∧Qaf Tryz.prog 53 3=some (6,2)∧Qdy Tryz.prog 53=some [0,2,0,2,0,2,0,2]∧tyOk Tryz.prog 57=true∧Qbw Tryz.prog 57=false∧(Tryz.prog.info? 57).isSome=true∧Qa4 Tryz.prog 57=some (1,24)∧Tryz.prog.cellsOf 57=1:=by repeat' (first | kernel_rfl | constructor)
theorem Qj8:Tryz.prog.underlying 57=some (.slice 59):=by kernel_rfl
theorem Ze5 (es:List PV):Qbq Tryz.prog 57 (.slc es)=some (.int .i64 es.length):=by simp only [Qbq,Qj8]
theorem Ze6:Qbq Tryz.prog 57 .nilS=some (.int .i64 0):=by simp only [Qbq,Qj8]
theorem Ze7 (b e o n:Nat):Qbq Tryz.prog 57 (.bs b e o n)=some (.int .i64 n):=by simp only [Qbq,Qj8]
theorem Qj9:Tryz.prog.underlying 80=some (.slice 51):=by kernel_rfl
theorem Zfh (es:List PV):Qbq Tryz.prog 80 (.slc es)=some (.int .i64 es.length):=by simp only [Qbq,Qj9]
theorem Zfi:Qbq Tryz.prog 80 .nilS=some (.int .i64 0):=by simp only [Qbq,Qj9]
theorem Zfj (b e o n:Nat):Qbq Tryz.prog 80 (.bs b e o n)=some (.int .i64 n):=by simp only [Qbq,Qj9]
theorem Tc3:Qbd Tryz.prog 57=some PV.nilS∧Qb4 Tryz.prog 57=some 59∧tyOk Tryz.prog 59=true∧Qbw Tryz.prog 59=true∧(Tryz.prog.info? 59).isSome=true∧Qa4 Tryz.prog 59=some (2,32)∧Tryz.prog.cellsOf 59=2∧Qbd Tryz.prog 59=some (PV.agg [PV.bool Bool.false,PV.nilS])∧buildable Tryz.prog 59=true∧Qbi Tryz.prog 59 0=some (0,4,1)∧Qaf Tryz.prog 59 0=some (0,1)∧Qbi Tryz.prog 59 1=some (1,26,1)∧Qaf Tryz.prog 59 1=some (1,1)∧tyOk Tryz.prog 61=true∧Qbw Tryz.prog 61=true∧(Tryz.prog.info? 61).isSome=true∧Qa4 Tryz.prog 61=some (3,56)∧Tryz.prog.cellsOf 61=3∧Qbd Tryz.prog 61=some (PV.agg [PV.nilS,PV.bool Bool.false,PV.nilS])∧buildable Tryz.prog 61=true∧Qbi Tryz.prog 61 0=some (0,57,1)∧Qaf Tryz.prog 61 0=some (0,1)∧Qbi Tryz.prog 61 1=some (1,59,2)∧Qaf Tryz.prog 61 1=some (1,2)∧tyOk Tryz.prog 69=true∧Qbw Tryz.prog 69=false∧(Tryz.prog.info? 69).isSome=true∧Qa4 Tryz.prog 69=some (1,8)∧Tryz.prog.cellsOf 69=1∧Qbd Tryz.prog 69=some PV.nilF∧tyOk Tryz.prog 80=true∧Qbw Tryz.prog 80=false∧(Tryz.prog.info? 80).isSome=true∧Qa4 Tryz.prog 80=some (1,24)∧Tryz.prog.cellsOf 80=1∧Qbd Tryz.prog 80=some PV.nilS∧Qb4 Tryz.prog 80=some 51∧tyOk Tryz.prog 81=true∧Qbw Tryz.prog 81=false∧(Tryz.prog.info? 81).isSome=true:=by repeat' (first | kernel_rfl | constructor)
theorem Qka:Tryz.prog.underlying 81=some (.slice 51):=by kernel_rfl
theorem Zfn (es:List PV):Qbq Tryz.prog 81 (.slc es)=some (.int .i64 es.length):=by simp only [Qbq,Qka]
theorem Zfo:Qbq Tryz.prog 81 .nilS=some (.int .i64 0):=by simp only [Qbq,Qka]
theorem Zfp (b e o n:Nat):Qbq Tryz.prog 81 (.bs b e o n)=some (.int .i64 n):=by simp only [Qbq,Qka]
theorem Qkb:Tryz.prog.underlying 85=some (.slice 86):=by kernel_rfl
theorem Zf5 (es:List PV):Qbq Tryz.prog 85 (.slc es)=some (.int .i64 es.length):=by simp only [Qbq,Qkb]
theorem Zf6:Qbq Tryz.prog 85 .nilS=some (.int .i64 0):=by simp only [Qbq,Qkb]
theorem Zf7 (b e o n:Nat):Qbq Tryz.prog 85 (.bs b e o n)=some (.int .i64 n):=by simp only [Qbq,Qkb]
theorem Tc4:Qa4 Tryz.prog 81=some (1,24)∧Tryz.prog.cellsOf 81=1∧Qbd Tryz.prog 81=some PV.nilS∧Qb4 Tryz.prog 81=some 51∧tyOk Tryz.prog 82=true∧Qbw Tryz.prog 82=true∧(Tryz.prog.info? 82).isSome=true∧Qa4 Tryz.prog 82=some (3,72)∧Tryz.prog.cellsOf 82=3∧Qbd Tryz.prog 82=some (PV.agg [PV.nilS,PV.nilS,PV.nilS])∧Qgz Tryz.prog 82=some (3,81)∧buildable Tryz.prog 82=true∧Qaf Tryz.prog 82 0=some (0,1)∧Qaf Tryz.prog 82 1=some (1,1)∧Qaf Tryz.prog 82 2=some (2,1)∧Qaf Tryz.prog 82 3=some (3,1)∧Qaf Tryz.prog 82 4=some (4,1)∧Qaf Tryz.prog 82 5=some (5,1)∧Qaf Tryz.prog 82 6=some (6,1)∧Qaf Tryz.prog 82 7=some (7,1)∧Qaf Tryz.prog 82 8=some (8,1)∧Qaf Tryz.prog 82 9=some (9,1)∧Qaf Tryz.prog 82 10=some (10,1)∧Qaf Tryz.prog 82 11=some (11,1)∧Qaf Tryz.prog 82 12=some (12,1)∧Qaf Tryz.prog 82 13=some (13,1)∧Qaf Tryz.prog 82 14=some (14,1)∧Qaf Tryz.prog 82 15=some (15,1)∧Qaf Tryz.prog 82 16=some (16,1)∧Qaf Tryz.prog 82 17=some (17,1)∧Qaf Tryz.prog 82 18=some (18,1)∧Qaf Tryz.prog 82 19=some (19,1)∧tyOk Tryz.prog 85=true∧Qbw Tryz.prog 85=false∧(Tryz.prog.info? 85).isSome=true∧Qa4 Tryz.prog 85=some (1,24)∧Tryz.prog.cellsOf 85=1∧Qbd Tryz.prog 85=some PV.nilS∧Qb4 Tryz.prog 85=some 86∧tyOk Tryz.prog 86=true:=by repeat' (first | kernel_rfl | constructor)
theorem Qkc:Tryz.prog.underlying 86=some (.slice 59):=by kernel_rfl
theorem Zgb (es:List PV):Qbq Tryz.prog 86 (.slc es)=some (.int .i64 es.length):=by simp only [Qbq,Qkc]
theorem Zgc:Qbq Tryz.prog 86 .nilS=some (.int .i64 0):=by simp only [Qbq,Qkc]
theorem Zgd (b e o n:Nat):Qbq Tryz.prog 86 (.bs b e o n)=some (.int .i64 n):=by simp only [Qbq,Qkc]
theorem Qkd:Tryz.prog.underlying 89=some (.slice 26):=by kernel_rfl
theorem Zgh (es:List PV):Qbq Tryz.prog 89 (.slc es)=some (.int .i64 es.length):=by simp only [Qbq,Qkd]
theorem Zgi:Qbq Tryz.prog 89 .nilS=some (.int .i64 0):=by simp only [Qbq,Qkd]
theorem Zgj (b e o n:Nat):Qbq Tryz.prog 89 (.bs b e o n)=some (.int .i64 n):=by simp only [Qbq,Qkd]
theorem Tc5:Qbw Tryz.prog 86=false∧(Tryz.prog.info? 86).isSome=true∧Qa4 Tryz.prog 86=some (1,24)∧Tryz.prog.cellsOf 86=1∧Qbd Tryz.prog 86=some PV.nilS∧Qb4 Tryz.prog 86=some 59∧tyOk Tryz.prog 89=true∧Qbw Tryz.prog 89=false∧(Tryz.prog.info? 89).isSome=true∧Qa4 Tryz.prog 89=some (1,24)∧Tryz.prog.cellsOf 89=1∧Qbd Tryz.prog 89=some PV.nilS∧Qb4 Tryz.prog 89=some 26∧tyOk Tryz.prog 98=true∧Qbw Tryz.prog 98=true∧(Tryz.prog.info? 98).isSome=true∧Qa4 Tryz.prog 98=some (3,72)∧Tryz.prog.cellsOf 98=3∧Qbd Tryz.prog 98=some (PV.agg [PV.nilS,PV.nilS,PV.nilS])∧Qgz Tryz.prog 98=some (3,26)∧buildable Tryz.prog 98=true∧Qaf Tryz.prog 98 0=some (0,1)∧Qaf Tryz.prog 98 1=some (1,1)∧Qaf Tryz.prog 98 2=some (2,1)∧Qaf Tryz.prog 98 3=some (3,1)∧Qaf Tryz.prog 98 4=some (4,1)∧Qaf Tryz.prog 98 5=some (5,1)∧Qaf Tryz.prog 98 6=some (6,1)∧Qaf Tryz.prog 98 7=some (7,1)∧Qaf Tryz.prog 98 8=some (8,1)∧Qaf Tryz.prog 98 9=some (9,1)∧Qaf Tryz.prog 98 10=some (10,1)∧Qaf Tryz.prog 98 11=some (11,1)∧Qaf Tryz.prog 98 12=some (12,1)∧Qaf Tryz.prog 98 13=some (13,1)∧Qaf Tryz.prog 98 14=some (14,1)∧Qaf Tryz.prog 98 15=some (15,1)∧Qaf Tryz.prog 98 16=some (16,1)∧Qaf Tryz.prog 98 17=some (17,1)∧Qaf Tryz.prog 98 18=some (18,1):=by repeat' (first | kernel_rfl | constructor)
theorem Tc6:Qaf Tryz.prog 98 19=some (19,1)∧tyOk Tryz.prog 113=true∧Qbw Tryz.prog 113=false∧(Tryz.prog.info? 113).isSome=true∧Qa4 Tryz.prog 113=some (1,8)∧Tryz.prog.cellsOf 113=1∧Qbd Tryz.prog 113=some PV.nilP∧Qpt Tryz.prog 113=true∧tyOk Tryz.prog 114=true∧Qbw Tryz.prog 114=true∧(Tryz.prog.info? 114).isSome=true∧Qa4 Tryz.prog 114=some (3,24)∧Tryz.prog.cellsOf 114=3∧Qbd Tryz.prog 114=some (PV.agg [PV.nilP,PV.nilP,PV.nilP])∧Qgz Tryz.prog 114=some (3,113)∧buildable Tryz.prog 114=true∧Qaf Tryz.prog 114 0=some (0,1)∧Qaf Tryz.prog 114 1=some (1,1)∧Qaf Tryz.prog 114 2=some (2,1)∧Qaf Tryz.prog 114 3=some (3,1)∧Qaf Tryz.prog 114 4=some (4,1)∧Qaf Tryz.prog 114 5=some (5,1)∧Qaf Tryz.prog 114 6=some (6,1)∧Qaf Tryz.prog 114 7=some (7,1)∧Qaf Tryz.prog 114 8=some (8,1)∧Qaf Tryz.prog 114 9=some (9,1)∧Qaf Tryz.prog 114 10=some (10,1)∧Qaf Tryz.prog 114 11=some (11,1)∧Qaf Tryz.prog 114 12=some (12,1)∧Qaf Tryz.prog 114 13=some (13,1)∧Qaf Tryz.prog 114 14=some (14,1)∧Qaf Tryz.prog 114 15=some (15,1)∧Qaf Tryz.prog 114 16=some (16,1)∧Qaf Tryz.prog 114 17=some (17,1)∧Qaf Tryz.prog 114 18=some (18,1)∧Qaf Tryz.prog 114 19=some (19,1)∧tyOk Tryz.prog 120=true∧Qbw Tryz.prog 120=false∧(Tryz.prog.info? 120).isSome=true∧Qa4 Tryz.prog 120=some (1,8):=by repeat' (first | kernel_rfl | constructor)
theorem Qip:Tryz.prog.underlying 123=some (.slice 120):=by kernel_rfl
theorem Q8l (es:List PV):Qbq Tryz.prog 123 (.slc es)=some (.int .i64 es.length):=by simp only [Qbq,Qip]
theorem Q8m:Qbq Tryz.prog 123 .nilS=some (.int .i64 0):=by simp only [Qbq,Qip]
theorem Q8n (b e o n:Nat):Qbq Tryz.prog 123 (.bs b e o n)=some (.int .i64 n):=by simp only [Qbq,Qip]
theorem Tc7:Tryz.prog.cellsOf 120=1∧Qbd Tryz.prog 120=some (PV.int IntKind.u64 0)∧Tryz.prog.underlying 120=some (.int .u64)∧tyOk Tryz.prog 123=true∧Qbw Tryz.prog 123=false∧(Tryz.prog.info? 123).isSome=true∧Qa4 Tryz.prog 123=some (1,24)∧Tryz.prog.cellsOf 123=1∧Qbd Tryz.prog 123=some PV.nilS∧Qb4 Tryz.prog 123=some 120∧tyOk Tryz.prog 126=true∧Qbw Tryz.prog 126=true∧(Tryz.prog.info? 126).isSome=true∧Qa4 Tryz.prog 126=some (2,32)∧Tryz.prog.cellsOf 126=2∧Qbd Tryz.prog 126=some (PV.agg [PV.bool Bool.false,PV.nilS])∧buildable Tryz.prog 126=true∧Qbi Tryz.prog 126 0=some (0,4,1)∧Qaf Tryz.prog 126 0=some (0,1)∧Qbi Tryz.prog 126 1=some (1,123,1)∧Qaf Tryz.prog 126 1=some (1,1)∧tyOk Tryz.prog 138=true∧Qbw Tryz.prog 138=true∧(Tryz.prog.info? 138).isSome=true∧Qa4 Tryz.prog 138=some (3,24)∧Tryz.prog.cellsOf 138=3∧Qbd Tryz.prog 138=some (PV.agg [PV.int IntKind.i64 0,PV.int IntKind.i64 0,PV.int IntKind.i64 0])∧Qgz Tryz.prog 138=some (3,3)∧buildable Tryz.prog 138=true∧Qaf Tryz.prog 138 0=some (0,1)∧Qaf Tryz.prog 138 1=some (1,1)∧Qaf Tryz.prog 138 2=some (2,1)∧Qaf Tryz.prog 138 3=some (3,1)∧Qaf Tryz.prog 138 4=some (4,1)∧Qaf Tryz.prog 138 5=some (5,1)∧Qaf Tryz.prog 138 6=some (6,1)∧Qaf Tryz.prog 138 7=some (7,1)∧Qaf Tryz.prog 138 8=some (8,1)∧Qaf Tryz.prog 138 9=some (9,1)∧Qaf Tryz.prog 138 10=some (10,1):=by repeat' (first | kernel_rfl | constructor)
theorem Tc8:Qaf Tryz.prog 138 11=some (11,1)∧Qaf Tryz.prog 138 12=some (12,1)∧Qaf Tryz.prog 138 13=some (13,1)∧Qaf Tryz.prog 138 14=some (14,1)∧Qaf Tryz.prog 138 15=some (15,1)∧Qaf Tryz.prog 138 16=some (16,1)∧Qaf Tryz.prog 138 17=some (17,1)∧Qaf Tryz.prog 138 18=some (18,1)∧Qaf Tryz.prog 138 19=some (19,1)∧tyOk Tryz.prog 139=true∧Qbw Tryz.prog 139=true∧(Tryz.prog.info? 139).isSome=true∧Qa4 Tryz.prog 139=some (6,72)∧Tryz.prog.cellsOf 139=6∧Qbd Tryz.prog 139=some (PV.agg [PV.bool Bool.false,PV.str {data:={toList:=[]}},PV.bool Bool.false,PV.str {data:={toList:=[]}},PV.bool Bool.false,PV.str {data:={toList:=[]}}])∧Qgz Tryz.prog 139=some (3,51)∧buildable Tryz.prog 139=true∧Qaf Tryz.prog 139 0=some (0,2)∧Qaf Tryz.prog 139 1=some (2,2)∧Qaf Tryz.prog 139 2=some (4,2)∧Qaf Tryz.prog 139 3=some (6,2)∧Qaf Tryz.prog 139 4=some (8,2)∧Qaf Tryz.prog 139 5=some (10,2)∧Qaf Tryz.prog 139 6=some (12,2)∧Qaf Tryz.prog 139 7=some (14,2)∧Qaf Tryz.prog 139 8=some (16,2)∧Qaf Tryz.prog 139 9=some (18,2)∧Qaf Tryz.prog 139 10=some (20,2)∧Qaf Tryz.prog 139 11=some (22,2)∧Qaf Tryz.prog 139 12=some (24,2)∧Qaf Tryz.prog 139 13=some (26,2)∧Qaf Tryz.prog 139 14=some (28,2)∧Qaf Tryz.prog 139 15=some (30,2)∧Qaf Tryz.prog 139 16=some (32,2)∧Qaf Tryz.prog 139 17=some (34,2)∧Qaf Tryz.prog 139 18=some (36,2)∧Qaf Tryz.prog 139 19=some (38,2)∧tyOk Tryz.prog 140=true∧Qbw Tryz.prog 140=false∧(Tryz.prog.info? 140).isSome=true:=by repeat' (first | kernel_rfl | constructor)
theorem Qiq:Tryz.prog.underlying 144=some (.slice 5):=by kernel_rfl
theorem Q9j (es:List PV):Qbq Tryz.prog 144 (.slc es)=some (.int .i64 es.length):=by simp only [Qbq,Qiq]
theorem Q9k:Qbq Tryz.prog 144 .nilS=some (.int .i64 0):=by simp only [Qbq,Qiq]
theorem Q9l (b e o n:Nat):Qbq Tryz.prog 144 (.bs b e o n)=some (.int .i64 n):=by simp only [Qbq,Qiq]
theorem Tc9:Qa4 Tryz.prog 140=some (1,8)∧Tryz.prog.cellsOf 140=1∧Qbd Tryz.prog 140=some (PV.int IntKind.u64 0)∧Tryz.prog.underlying 140=some (.int .u64)∧tyOk Tryz.prog 144=true∧Qbw Tryz.prog 144=false∧(Tryz.prog.info? 144).isSome=true∧Qa4 Tryz.prog 144=some (1,24)∧Tryz.prog.cellsOf 144=1∧Qbd Tryz.prog 144=some PV.nilS∧Qb4 Tryz.prog 144=some 5∧tyOk Tryz.prog 145=true∧Qbw Tryz.prog 145=true∧(Tryz.prog.info? 145).isSome=true∧Qa4 Tryz.prog 145=some (6,48)∧Tryz.prog.cellsOf 145=6∧Qbd Tryz.prog 145=some (PV.agg [PV.int IntKind.i64 0,PV.int IntKind.i64 0,PV.int IntKind.i64 0,PV.int IntKind.i64 0,PV.int IntKind.i64 0,PV.int IntKind.i64 0])∧Qgz Tryz.prog 145=some (6,3)∧buildable Tryz.prog 145=true∧Qaf Tryz.prog 145 0=some (0,1)∧Qaf Tryz.prog 145 1=some (1,1)∧Qaf Tryz.prog 145 2=some (2,1)∧Qaf Tryz.prog 145 3=some (3,1)∧Qaf Tryz.prog 145 4=some (4,1)∧Qaf Tryz.prog 145 5=some (5,1)∧Qaf Tryz.prog 145 6=some (6,1)∧Qaf Tryz.prog 145 7=some (7,1)∧Qaf Tryz.prog 145 8=some (8,1)∧Qaf Tryz.prog 145 9=some (9,1)∧Qaf Tryz.prog 145 10=some (10,1)∧Qaf Tryz.prog 145 11=some (11,1)∧Qaf Tryz.prog 145 12=some (12,1)∧Qaf Tryz.prog 145 13=some (13,1)∧Qaf Tryz.prog 145 14=some (14,1)∧Qaf Tryz.prog 145 15=some (15,1)∧Qaf Tryz.prog 145 16=some (16,1)∧Qaf Tryz.prog 145 17=some (17,1)∧Qaf Tryz.prog 145 18=some (18,1)∧Qaf Tryz.prog 145 19=some (19,1)∧tyOk Tryz.prog 146=true:=by repeat' (first | kernel_rfl | constructor)
theorem Tc10:Qbw Tryz.prog 146=true∧(Tryz.prog.info? 146).isSome=true∧Qa4 Tryz.prog 146=some (36,288)∧Tryz.prog.cellsOf 146=36∧Qbd Tryz.prog 146=some (PV.agg [PV.int IntKind.i64 0,PV.int IntKind.i64 0,PV.int IntKind.i64 0,PV.int IntKind.i64 0,PV.int IntKind.i64 0,PV.int IntKind.i64 0,PV.int IntKind.i64 0,PV.int IntKind.i64 0,PV.int IntKind.i64 0,PV.int IntKind.i64 0,PV.int IntKind.i64 0,PV.int IntKind.i64 0,PV.int IntKind.i64 0,PV.int IntKind.i64 0,PV.int IntKind.i64 0,PV.int IntKind.i64 0,PV.int IntKind.i64 0,PV.int IntKind.i64 0,PV.int IntKind.i64 0,PV.int IntKind.i64 0,PV.int IntKind.i64 0,PV.int IntKind.i64 0,PV.int IntKind.i64 0,PV.int IntKind.i64 0,PV.int IntKind.i64 0,PV.int IntKind.i64 0,PV.int IntKind.i64 0,PV.int IntKind.i64 0,PV.int IntKind.i64 0,PV.int IntKind.i64 0,PV.int IntKind.i64 0,PV.int IntKind.i64 0,PV.int IntKind.i64 0,PV.int IntKind.i64 0,PV.int IntKind.i64 0,PV.int IntKind.i64 0])∧Qgz Tryz.prog 146=some (6,145)∧buildable Tryz.prog 146=true∧Qaf Tryz.prog 146 0=some (0,6)∧Qaf Tryz.prog 146 1=some (6,6)∧Qaf Tryz.prog 146 2=some (12,6)∧Qaf Tryz.prog 146 3=some (18,6)∧Qaf Tryz.prog 146 4=some (24,6)∧Qaf Tryz.prog 146 5=some (30,6)∧Qaf Tryz.prog 146 6=some (36,6)∧Qaf Tryz.prog 146 7=some (42,6)∧Qaf Tryz.prog 146 8=some (48,6)∧Qaf Tryz.prog 146 9=some (54,6)∧Qaf Tryz.prog 146 10=some (60,6)∧Qaf Tryz.prog 146 11=some (66,6)∧Qaf Tryz.prog 146 12=some (72,6)∧Qaf Tryz.prog 146 13=some (78,6)∧Qaf Tryz.prog 146 14=some (84,6)∧Qaf Tryz.prog 146 15=some (90,6)∧Qaf Tryz.prog 146 16=some (96,6)∧Qaf Tryz.prog 146 17=some (102,6)∧Qaf Tryz.prog 146 18=some (108,6)∧Qaf Tryz.prog 146 19=some (114,6)∧tyOk Tryz.prog 167=true∧Qbw Tryz.prog 167=true∧(Tryz.prog.info? 167).isSome=true∧Qa4 Tryz.prog 167=some (1,8)∧Tryz.prog.cellsOf 167=1∧Qbd Tryz.prog 167=some (PV.agg [PV.int IntKind.i64 0])∧buildable Tryz.prog 167=true∧Qbi Tryz.prog 167 0=some (0,30,1)∧Qaf Tryz.prog 167 0=some (0,1)∧Qdy Tryz.prog 167=some [1]∧tyOk Tryz.prog 169=true∧Qbw Tryz.prog 169=true∧(Tryz.prog.info? 169).isSome=true:=by repeat' (first | kernel_rfl | constructor)
theorem Tc11:Qa4 Tryz.prog 169=some (1,8)∧Tryz.prog.cellsOf 169=1∧Qbd Tryz.prog 169=some (PV.agg [PV.int IntKind.i64 0])∧buildable Tryz.prog 169=true∧Qbi Tryz.prog 169 0=some (0,167,1)∧Qaf Tryz.prog 169 0=some (0,1)∧Qdy Tryz.prog 169=some [1]∧tyOk Tryz.prog 193=true∧Qbw Tryz.prog 193=false∧(Tryz.prog.info? 193).isSome=true∧Qa4 Tryz.prog 193=some (1,16)∧Tryz.prog.cellsOf 193=1∧Qbd Tryz.prog 193=some PV.nilI:=by repeat' (first | kernel_rfl | constructor)
attribute [go_sem] Zln Zn6 Qj6 Zeh Zei Zej Qj7 Zen Zeo Zep Qj8 Ze5 Ze6 Ze7 Qj9 Zfh Zfi Zfj Qka Zfn Zfo Zfp Qkb Zf5 Zf6 Zf7 Qkc Zgb Zgc Zgd Qkd Zgh Zgi Zgj Qip Q8l Q8m Q8n Qiq Q9j Q9k Q9l Tc0 Tc1 Tc2
attribute [go_sem] Tc3 Tc4 Tc5 Tc6 Tc7 Tc8 Tc9 Tc10 Tc11
end Go.Proofs.YtlghoaggenhheaaGreat

namespace Go.Dg
def digs (B n:Nat):List Nat:=if h:n=0∨B<2 then []else n%B::digs B (n/B)
termination_by n
decreasing_by
 simp only [not_or,Nat.not_lt]at h;exact Nat.div_lt_self (Nat.pos_of_ne_zero h.1) h.2
def val (B:Nat):List Nat→Nat
 | []=>0
 |d::l=>d+B*val B l
section
variable {B:Nat}
theorem Qa3:digs B 0=[]:=by unfold digs;simp
theorem Qga (hB:2≤B) {n:Nat} (hn:n≠0):digs B n=n%B::digs B (n/B):=by
 conv=>lhs;unfold digs
 rw [dif_neg];simp only [not_or,Nat.not_lt];exact⟨hn,hB⟩
theorem Qrx (hB:2≤B) (n:Nat):val B (digs B n)=n:=by
 induction n using Nat.strongRecOn with
 |_ n ih=>
  by_cases hn:n=0
  ·subst hn;rw [Qa3];rfl
  ·rw [Qga hB hn];simp only [val];rw [ih _ (Nat.div_lt_self (Nat.pos_of_ne_zero hn) hB)];exact Nat.mod_add_div n B
theorem Qry (hB:2≤B) (n k:Nat):(digs B n)[k]? =if n/B^k=0 then none else some (n/B^k%B):=by
 induction k generalizing n with
 |zero=>
  by_cases hn:n=0
  ·subst hn;simp [Qa3]
  ·rw [Qga hB hn];simp [hn]
 |succ k ih=>
  by_cases hn:n=0
  ·subst hn;simp [Qa3]
  ·rw [Qga hB hn,List.getElem?_cons_succ,ih];have:n/B/B^k=n/B^(k+1):=by rw [Nat.div_div_eq_div_mul,Nat.pow_succ,Nat.mul_comm]
   rw [this]
theorem Qck (hB:2≤B) (n k:Nat):k<(digs B n).length↔n/B^k≠0:=by
 have:=Qry hB n k;constructor
 ·intro h hz;rw [if_pos hz,List.getElem?_eq_none_iff]at this;omega
 ·intro h;rw [if_neg h]at this;exact(List.getElem?_eq_some_iff.1 this).1
theorem Qar (hB:2≤B) (n k:Nat):(digs B n).length≤k↔n<B^k:=by
 have h:=Qck hB n k;have hp:0<B^k:=Nat.pow_pos (by omega);rw [←Nat.not_lt,h,Decidable.not_not,Nat.div_eq_zero_iff];omega
theorem Qa2 (hB:2≤B) (n:Nat):n<B^(digs B n).length:=(Qar hB n _).1 (Nat.le_refl _)
theorem Qat (hB:2≤B) {n k:Nat} (h:k<(digs B n).length):(digs B n)[k]? =some (n/B^k%B):=by
 rw [Qry hB,if_neg ((Qck hB n k).1 h)]
theorem Qns (hB:2≤B) {n d:Nat} (h:d∈digs B n):d<B:=by
 obtain⟨k,hk⟩:=List.mem_iff_getElem?.1 h;rw [Qry hB]at hk;split at hk
 ·cases hk
 ·cases hk;exact Nat.mod_lt _ (by omega)
theorem Qbf (hB:2≤B) {n k:Nat} (h:(digs B n).length≤k):n/B^k=0:=by
 have:=(Qar hB n k).1 h;exact Nat.div_eq_of_lt this
theorem Qbo (hB:2≤B) {n:Nat}:digs B n=[]↔n=0:=by
 constructor
 ·intro h;have:=Qrx hB n;rw [h]at this;exact this.symm
 ·rintro rfl;exact Qa3
def lows (B n i:Nat):List Nat:=(List.range i).map fun k=>n/B^k%B
theorem Qak (n i:Nat):(lows B n i).length=i:=by simp [lows]
theorem Qdn (n i:Nat):lows B n (i+1)=lows B n i++[n/B^i%B]:=by simp [lows,List.range_succ]
theorem Qb2 (n i k:Nat) (h:k<i):(lows B n i)[k]? =some (n/B^k%B):=by simp [lows,h]
theorem Qub (n i:Nat):lows B n (i+1)=n%B::lows B (n/B) i:=by
 simp only [lows,List.range_succ_eq_map,List.map_cons,Nat.pow_zero,Nat.div_one,List.map_map];congr 1;apply List.map_congr_left;intro k _;simp only [Function.comp,Nat.succ_eq_add_one];rw [Nat.div_div_eq_div_mul,Nat.pow_succ,Nat.mul_comm]
theorem Zct (hB:0<B) (n i:Nat):val B (lows B n i)=n%B^i:=by
 induction i generalizing n with
 |zero=>simp [lows,val,Nat.mod_one]
 |succ i ih=>
  rw [Qub];simp only [val];rw [ih,Nat.pow_succ,Nat.mul_comm (B^i) B,Nat.mod_mul]
theorem Qhm (hB:2≤B) (n:Nat):lows B n (digs B n).length=digs B n:=by
 apply List.ext_getElem?;intro k;by_cases hk:k<(digs B n).length
 ·rw [Qb2 _ _ _ hk,Qat hB hk]
 ·rw [List.getElem?_eq_none (by rw [Qak];omega),List.getElem?_eq_none (by omega)]
def Qdl (l:List Nat):List Nat:=(l.reverse.dropWhile (· ==0)).reverse
theorem Qc0 (l:List Nat):Qdl (l++[0])=Qdl l:=by simp [Qdl]
theorem Qfd (l:List Nat) {d:Nat} (h:d≠0):Qdl (l++[d])=l++[d]:=by simp [Qdl,h]
theorem Q4z:Qdl []=[]:=rfl
theorem Qqi (l m:List Nat):val B (l++m)=val B l+B^l.length*val B m:=by
 induction l with
 |nil=>simp [val]
 |cons d l ih=>
  simp only [List.cons_append,val,ih,List.length_cons,Nat.pow_succ];rw [Nat.mul_add,Nat.add_assoc,←Nat.mul_assoc,Nat.mul_comm B (B^l.length)]
theorem Zsa (hB:0<B) {l:List Nat} (h: ∀d∈l,d<B):val B l<B^l.length:=by
 induction l with
 |nil=>simp [val]
 |cons d l ih=>
  have h1:=ih fun x hx=>h x (by simp [hx]);have h2:=h d (by simp);simp only [val,List.length_cons,Nat.pow_succ];have:B*val B l+B≤B*B^l.length:=by rw [←Nat.mul_succ];exact Nat.mul_le_mul_left _ h1
  rw [Nat.mul_comm (B^l.length)];omega
theorem Zcu (hB:2≤B) {l:List Nat} (h: ∀d∈l,d<B):lows B (val B l) l.length=l:=by
 induction l with
 |nil=>rfl
 |cons d l ih=>
  have h2:=h d (by simp);rw [List.length_cons,Qub];simp only [val];rw [Nat.add_mul_mod_self_left,Nat.mod_eq_of_lt h2,Nat.add_mul_div_left _ _ (by omega),Nat.div_eq_of_lt h2,Nat.zero_add,ih fun x hx=>h x (by simp [hx])]
theorem Qm5 (hB:2≤B) (l:List Nat) (h: ∀d∈l,d<B):Qdl l=digs B (val B l):=by
 have key: ∀n,∀l:List Nat,l.length=n→(∀d∈l,d<B)→Qdl l=digs B (val B l):=by
  intro n
  induction n with
  |zero=>intro l hl _;rw [List.length_eq_zero_iff.1 hl];simp [Q4z,val,Qa3]
  |succ n ih=>
   intro l hl h;have hne:l≠ []:=by rintro rfl;simp at hl
   have hcut:=List.dropLast_concat_getLast hne;generalize l.dropLast=m at hcut;generalize l.getLast hne=d at hcut;subst hcut;have hm:m.length=n:=by simpa using hl
   have hmd: ∀x∈m,x<B:=fun x hx=>h x (by simp [hx]);by_cases hd:d=0
   ·subst hd;rw [Qc0,ih m hm hmd,Qqi];simp [val]
   ·rw [Qfd m hd];have hlen:(digs B (val B (m++[d]))).length=(m++[d]).length:=by
     apply Nat.le_antisymm
     ·exact(Qar hB _ _).2 (Zsa (by omega) h)
     ·have:(m++[d]).length=m.length+1:=by simp
      rw [this];apply (Qck hB _ _).2;rw [Qqi];simp only [val,Nat.mul_zero,Nat.add_zero];rw [Nat.add_mul_div_left _ _ (Nat.pow_pos (by omega))];exact fun e=>hd (Nat.eq_zero_of_add_eq_zero_left e)
    have:=Qhm hB (val B (m++[d]));rw [hlen,Zcu hB h]at this;exact this
 exact key l.length l rfl h
theorem Qbt (hB:2≤B) (n i:Nat):Qdl (lows B n i)=digs B (n%B^i):=by
 rw [Qm5 hB,Zct (by omega)];intro d hd;simp only [lows,List.mem_map]at hd;obtain⟨k,_,rfl⟩:=hd;exact Nat.mod_lt _ (by omega)
theorem Q1p {l:List Nat} (h: ∀d,l.getLast? =some d→d≠0):Qdl l=l:=by
 by_cases hne:l=[]
 ·subst hne;rfl
 ·have hcut:=List.dropLast_concat_getLast hne;have hl:l.getLast? =some (l.getLast hne):=List.getLast?_eq_some_getLast hne;have:=h _ hl;rw [←hcut];exact Qfd _ this
end
end Go.Dg

namespace Go.Proofs.YtlghoaggenhheaaGreat
open Go.Vl Go.RowKit Go.Dg
def di (l:List Nat):PV:= .slc (l.map fun d:Nat=>PV.int .i64 (d:Int))
theorem Qfl (l:List Nat) (k:Nat):(l.map fun d:Nat=>PV.int .i64 (d:Int))[k]? =l[k]?.map fun d:Nat=>PV.int .i64 (d:Int):=List.getElem?_map
theorem Zsl (l:List Nat):((l.map fun d:Nat=>PV.int .i64 (d:Int)).all fun x=>x.cells.length==1)=true:=by rw [List.all_map,List.all_eq_true];intro d _;rfl
theorem wrapn {n:Nat} (h:n<9223372036854775808):IntKind.i64.wrap (n:Int)=n:=Qai (by omega) (by omega)
theorem Qj0 {n:Nat} (h:n<9223372036854775808):IntKind.i64.wrap (((n+1:Nat):Int)-1)=(n:Int):=by
 rw [Qai (by omega) (by omega)];omega
theorem Qgf:maxLen<9223372036854775808:=by simp [maxLen]
theorem Qlb (l:List Nat) (hl:l.length≤maxLen):Qae Tryz.prog 88 [di l] (di (Qdl l)):=by
 have hm:=Qgf;refine Qab (tb:=[]) 21 [.tmp 2] [0,2,14] mixed Tryz.func88 rfl (by kernel_rfl) ?_;simp -implicitDefEqProofs only [go_sem,seval,di];refine Qaq mixed (fun k:{k:Nat // k≤l.length∧Qdl (l.take k)=Qdl l}=>St.of [(0,di (l.take k.1)),(2,.nilS)] []) (fun k=>k.1) ⟨l.length,Nat.le_refl _,by rw [List.take_length]⟩ ?_ ?_
 ·exact Qaz (by simp [Qac,lkp,ren1,ren0,di])
 ·rintro⟨k,hk,ht⟩;have hlen:(l.take k).length=k:=by simp;omega
  cases k with
  |zero=>
   have h1:((0:Int)<((0:Nat):Int))=False:=by simp
   simp -implicitDefEqProofs only [go_sem,seval,di,h1];rw [←ht];rfl
  |succ k=>
   have h1:((0:Int)<((k+1:Nat):Int))=True:=by simp
   have h2:(0≤(k:Int))=True:=by simp
   have hw:=Qj0 (n:=k) (by omega);have hlt:k<l.length:=by omega
   have hget:(l.take (k+1))[k]? =some l[k]:=by simp [hlt]
   have hcut:l.take (k+1)=l.take k++[l[k]]:=by rw [List.take_add_one];simp [hlt]
   cases hd:((l[k]:Int)==0)with
   |true=>
    have hd0:l[k]=0:=by simpa using hd
    have h3:((k:Int)≤((k+1:Nat):Int))=True:=by simp;omega
    simp -implicitDefEqProofs only [go_sem,seval,di,List.length_map,hlen,h1,h2,h3,hw,Int.toNat_natCast,Qfl,hget,hd,Zsl];refine⟨⟨k,by omega,?_⟩,by simp,?_⟩
    ·rw [←ht,hcut,hd0,Qc0]
    ·refine Qaz (by simp [Qac,lkp,ren1,ren0,di];rw [←List.map_take];simp [List.take_take])
   |false=>
    have hd0:l[k]≠0:=by simpa using hd
    simp -implicitDefEqProofs only [go_sem,seval,di,List.length_map,hlen,h1,h2,hw,Int.toNat_natCast,Qfl,hget,hd];rw [←ht,hcut,Qfd _ hd0]
end Go.Proofs.YtlghoaggenhheaaGreat

namespace Go.Dg
section
variable {B:Nat}
def carry (B a b i:Nat):Nat:=(a%B^i+b%B^i)/B^i
theorem Qk5 (a b:Nat):carry B a b 0=0:=by simp [carry,Nat.mod_one]
theorem Qr4 (hB:0<B) (a b i:Nat):carry B a b i≤1:=by
 have hp:0<B^i:=Nat.pow_pos hB;have h1:=Nat.mod_lt a hp;have h2:=Nat.mod_lt b hp;unfold carry;rw [Nat.div_le_iff_le_mul hp];omega
theorem Qr5 (hB:0<B) (a b i:Nat):(a/B^i%B+b/B^i%B+carry B a b i)%B=(a+b)/B^i%B∧(a/B^i%B+b/B^i%B+carry B a b i)/B=carry B a b (i+1):=by
 have hp:0<B^i:=Nat.pow_pos hB;unfold carry;generalize hP:B^i=P at*;have e1:(a+b)/P=a/P+b/P+(a%P+b%P)/P:=by
  conv=>lhs;rw [←Nat.div_add_mod a P,←Nat.div_add_mod b P]
  have:P*(a/P)+a%P+(P*(b/P)+b%P)=(a%P+b%P)+P*(a/P+b/P):=by rw [Nat.mul_add];omega
  rw [this,Nat.add_mul_div_left _ _ hp];omega
 constructor
 ·rw [e1]
  conv=>rhs;rw [Nat.add_mod,Nat.add_mod (a/P)]
  conv=>lhs;rw [Nat.add_mod,Nat.add_mod (a/P%B)]
  simp
 ·have hP1:B^(i+1)=P*B:=by rw [Nat.pow_succ,hP]
  rw [hP1,Nat.mod_mul,Nat.mod_mul];have:a%P+P*(a/P%B)+(b%P+P*(b/P%B))=(a%P+b%P)+P*(a/P%B+b/P%B):=by rw [Nat.mul_add];omega
  rw [this,←Nat.div_div_eq_div_mul,Nat.add_mul_div_left _ _ hp];congr 1;omega
theorem Q43 (hB:0<B) (a b i:Nat):(carry B a b i+a/B^i%B+b/B^i%B)%B=(a+b)/B^i%B∧(carry B a b i+a/B^i%B+b/B^i%B)/B=carry B a b (i+1):=by
 have h:=Qr5 hB a b i;have e:carry B a b i+a/B^i%B+b/B^i%B=a/B^i%B+b/B^i%B+carry B a b i:=by omega
 rw [e];exact h
theorem Qnx (hB:2≤B) {n i:Nat} (h1:n<B^i) (h2: ∀j,j<i→n/B^j≠0):lows B n i=digs B n:=by
 have hl:(digs B n).length=i:=by
  apply Nat.le_antisymm ((Qar hB n i).2 h1);rcases Nat.eq_zero_or_pos i with rfl|hi
  ·exact Nat.zero_le _
  ·have:=(Qck hB n (i-1)).2 (h2 (i-1) (by omega));omega
 rw [←hl,Qhm hB]
theorem Zcw (hB:2≤B) {a b i:Nat} (ha:(digs B a).length≤i) (hb:(digs B b).length≤i) (hc:carry B a b i=0):a+b<B^i:=by
 have h1:=(Qar hB a i).1 ha;have h2:=(Qar hB b i).1 hb;unfold carry at hc;rw [Nat.mod_eq_of_lt h1,Nat.mod_eq_of_lt h2,Nat.div_eq_zero_iff]at hc;have:0<B^i:=Nat.pow_pos (by omega);omega
theorem Zcx (hB:2≤B) {a b i:Nat} (h:i<(digs B a).length∨i<(digs B b).length∨0<carry B a b i):(a+b)/B^i≠0:=by
 have hp:0<B^i:=Nat.pow_pos (by omega);have hle:B^i≤a+b:=by
  rcases h with h|h|h
  ·have:=(Qck hB a i).1 h;have:=Nat.div_eq_zero_iff (a:=a) (b:=B^i);omega
  ·have:=(Qck hB b i).1 h;have:=Nat.div_eq_zero_iff (a:=b) (b:=B^i);omega
  ·unfold carry at h;have h1:=Nat.mod_le a (B^i);have h2:=Nat.mod_le b (B^i);have h3:=Nat.div_eq_zero_iff (a:=a%B^i+b%B^i) (b:=B^i);omega
 have:=Nat.div_eq_zero_iff (a:=a+b) (b:=B^i);omega
end
end Go.Dg

namespace Go.Proofs.YtlghoaggenhheaaGreat
open Go.Vl Go.RowKit Go.Dg
abbrev E9:Nat:=1000000000
theorem E9_2:2≤E9:=by decide
abbrev fI:Nat→PV:=fun d:Nat=>PV.int .i64 (d:Int)
theorem Ql2 (l:List Nat):(((l.map fun d:Nat=>PV.int .i64 (d:Int)).flatMap PV.cells).all PV.okCell)=true:=by
 rw [List.all_eq_true];intro x hx;obtain⟨y,hy,hx⟩:=List.mem_flatMap.1 hx;obtain⟨d,_,rfl⟩:=List.mem_map.1 hy;simp only [Zva,List.mem_singleton]at hx;subst hx;rfl
theorem Qsf (n:Nat):Int.tmod (n:Int) 1000000000=((n%1000000000:Nat):Int):=by
 rw [Int.tmod_eq_emod_of_nonneg (by omega)];rfl
theorem Qsg (n:Nat):Int.tdiv (n:Int) 1000000000=((n/1000000000:Nat):Int):=by
 rw [Int.tdiv_eq_ediv_of_nonneg (by omega)];rfl
theorem Qcr {a b:Nat} (h:a+b<9223372036854775808):IntKind.i64.wrap ((a:Int)+(b:Int))=((a+b:Nat):Int):=by
 rw [Qai (by omega) (by omega)];omega
theorem Qah {a:Nat} (h:a+1<9223372036854775808):IntKind.i64.wrap ((a:Int)+1)=((a+1:Nat):Int):=by
 rw [Qai (by omega) (by omega)];omega
theorem Zmy (a b:Nat) (hl:(digs E9 (a+b)).length≤1000000000):Qae Tryz.prog 102 [di (digs E9 a),di (digs E9 b)] (di (digs E9 (a+b))):=by
 have hm:=Qgf;refine Qab (tb:=[]) 52 [.tmp 4] [0,1,4,5,6,7,21,27,37] mixed Tryz.func102 rfl (by kernel_rfl) ?_;simp -implicitDefEqProofs only [go_sem,seval,di];refine Qaq mixed (fun i:{i:Nat // i≤(digs E9 (a+b)).length∧ ∀j,j<i→(a+b)/E9^j≠0}=>St.of [(0,di (digs E9 a)),(1,di (digs E9 b)),(4,.nilS),(5,.bs 7 1 0 i.1),(6,.int .i64 (carry E9 a b i.1:Int)),(7,.int .i64 (i.1:Int))]
  [(7,{els:=(lows E9 (a+b) i.1).map fI,esz:=1,ety:=3,fro:=0,live:=true,arr:=true})]) (fun i=>(digs E9 (a+b)).length+1-i.1) ⟨0,Nat.zero_le _,by omega⟩ ?_ ?_
 ·refine Qci 5 7 1 3 rfl rfl rfl (by decide) [(7,7)] rfl ?_ ?_
  ·simp [Qac,lkp,ren1,ren0,di,Qk5]
  ·simp [Qal,lkp,Box.renames,lows]
 ·rintro⟨i,hi,hmore⟩;have h0:(0≤(i:Int))=True:=by simp
  have hll:=Qak (B:=E9) (a+b) i;have hcle:=Qr4 (B:=E9) (by decide) a b i;obtain⟨hs1,hs2⟩:(carry E9 a b i+a/E9^i%E9+b/E9^i%E9)%1000000000=(a+b)/E9^i%E9∧(carry E9 a b i+a/E9^i%E9+b/E9^i%E9)/1000000000=carry E9 a b (i+1):=Q43 (B:=E9) (by decide) a b i;have hda:a/E9^i%E9<E9:=Nat.mod_lt _ (by decide);have hdb:b/E9^i%E9<E9:=Nat.mod_lt _ (by decide);have hb1:((i+1)*8≤140737488355328)=True:=by simp;omega
  have hb2:(i+1≤maxLen)=True:=by simp [maxLen];omega
  have hwi:=Qah (a:=i) (by omega);have next: ∀s,((i<(digs E9 a).length)∨(i<(digs E9 b).length)∨0<carry E9 a b i)→Le s (St.of [(0,di (digs E9 a)),(1,di (digs E9 b)),(4,.nilS),(5,.bs 7 1 0 (i+1)),(6,.int .i64 (carry E9 a b (i+1):Int)),(7,.int .i64 ((i+1:Nat):Int))]
    [(7,{els:=(lows E9 (a+b) (i+1)).map fI,esz:=1,ety:=3,fro:=0,live:=true,arr:=true})])→
    ∃y:{i:Nat // i≤(digs E9 (a+b)).length∧ ∀j,j<i→(a+b)/E9^j≠0},(digs E9 (a+b)).length+1-y.1<(digs E9 (a+b)).length+1-i∧
     Le s (St.of [(0,di (digs E9 a)),(1,di (digs E9 b)),(4,.nilS),(5,.bs 7 1 0 y.1),(6,.int .i64 (carry E9 a b y.1:Int)),(7,.int .i64 (y.1:Int))]
      [(7,{els:=(lows E9 (a+b) y.1).map fI,esz:=1,ety:=3,fro:=0,live:=true,arr:=true})]):=by
   intro s hc hle;have hne:=Zcx E9_2 hc;have hlt:=(Qck E9_2 _ _).2 hne;exact⟨⟨i+1,hlt,fun j hj=>(Nat.lt_succ_iff_lt_or_eq.1 hj).elim (hmore j) fun h=>h▸hne⟩,by simp only;omega,hle⟩
  by_cases hA:i<(digs E9 a).length
  ·have hA':((i:Int)<((digs E9 a).length:Int))=True:=by simp;omega
   have hga:=Qat E9_2 hA;by_cases hB:i<(digs E9 b).length
   ·have hB':((i:Int)<((digs E9 b).length:Int))=True:=by simp;omega
    have hgb:=Qat E9_2 hB;have w1:=Qcr (a:=carry E9 a b i) (b:=a/E9^i%E9) (by simp only [E9]at*;omega);have w2:=Qcr (a:=carry E9 a b i+a/E9^i%E9) (b:=b/E9^i%E9) (by simp only [E9]at*;omega);have w3:=wrapn (n:=(carry E9 a b i+a/E9^i%E9+b/E9^i%E9)/1000000000) (by simp only [E9]at*;omega);simp -implicitDefEqProofs only [go_sem,seval,di,List.length_map,hA',hB',h0,Qfl,hga,hgb,w1,w2,w3,Qsf,Qsg,hll,Ql2,hb1,hb2,hwi];refine next _ (.inl hA) (Qaj (θ:=[(7,1004)]) rfl ?_ ?_)
    ·simp [Qac,lkp,ren1,ren0,di,hs2]
    ·simp [Qal,lkp,Box.renames,Qdn,hs1]
   ·have hB':((i:Int)<((digs E9 b).length:Int))=False:=by simp;omega
    have hb0:b/E9^i%E9=0:=by rw [Qbf E9_2 (Nat.le_of_not_lt hB),Nat.zero_mod]
    rw [hb0,Nat.add_zero]at hs1 hs2;have w1:=Qcr (a:=carry E9 a b i) (b:=a/E9^i%E9) (by simp only [E9]at*;omega);have w3:=wrapn (n:=(carry E9 a b i+a/E9^i%E9)/1000000000) (by simp only [E9]at*;omega);simp -implicitDefEqProofs only [go_sem,seval,di,List.length_map,hA',hB',h0,Qfl,hga,w1,w3,Qsf,Qsg,hll,Ql2,hb1,hb2,hwi];refine next _ (.inl hA) (Qaj (θ:=[(7,1004)]) rfl ?_ ?_)
    ·simp [Qac,lkp,ren1,ren0,di,hs2]
    ·simp [Qal,lkp,Box.renames,Qdn,hs1]
  ·have hA':((i:Int)<((digs E9 a).length:Int))=False:=by simp;omega
   have ha0:a/E9^i%E9=0:=by rw [Qbf E9_2 (Nat.le_of_not_lt hA),Nat.zero_mod]
   rw [ha0,Nat.add_zero]at hs1 hs2;by_cases hB:i<(digs E9 b).length
   ·have hB':((i:Int)<((digs E9 b).length:Int))=True:=by simp;omega
    have hgb:=Qat E9_2 hB;have w2:=Qcr (a:=carry E9 a b i) (b:=b/E9^i%E9) (by simp only [E9]at*;omega);have w3:=wrapn (n:=(carry E9 a b i+b/E9^i%E9)/1000000000) (by simp only [E9]at*;omega);simp -implicitDefEqProofs only [go_sem,seval,di,List.length_map,hA',hB',h0,Qfl,hgb,w2,w3,Qsf,Qsg,hll,Ql2,hb1,hb2,hwi];refine next _ (.inr (.inl hB)) (Qaj (θ:=[(7,1004)]) rfl ?_ ?_)
    ·simp [Qac,lkp,ren1,ren0,di,hs2]
    ·simp [Qal,lkp,Box.renames,Qdn,hs1]
   ·have hB':((i:Int)<((digs E9 b).length:Int))=False:=by simp;omega
    have hb0:b/E9^i%E9=0:=by rw [Qbf E9_2 (Nat.le_of_not_lt hB),Nat.zero_mod]
    rw [hb0,Nat.add_zero]at hs1 hs2;by_cases hC:0<carry E9 a b i
    ·have hC':((0:Int)<(carry E9 a b i:Int))=True:=by simp;omega
     have w3:=wrapn (n:=carry E9 a b i/1000000000) (by simp only [E9]at*;omega);simp -implicitDefEqProofs only [go_sem,seval,di,List.length_map,hA',hB',hC',w3,Qsf,Qsg,hll,Ql2,hb1,hb2,hwi];refine next _ (.inr (.inr hC)) (Qaj (θ:=[(7,1004)]) rfl ?_ ?_)
     ·simp [Qac,lkp,ren1,ren0,di,hs2]
     ·simp [Qal,lkp,Box.renames,Qdn,hs1]
    ·have hC':((0:Int)<(carry E9 a b i:Int))=False:=by simp;omega
     have hlt:=Zcw E9_2 (Nat.le_of_not_lt hA) (Nat.le_of_not_lt hB) (by omega);have hd:=Qnx E9_2 hlt hmore;have htk:((lows E9 (a+b) i).map fI).take i=(lows E9 (a+b) i).map fI:=List.take_of_length_le (by simp [hll]);simp -implicitDefEqProofs only [go_sem,seval,di,List.length_map,hA',hB',hC',hll,htk];rw [hd]
end Go.Proofs.YtlghoaggenhheaaGreat

namespace Go.Dg
section
variable {B:Nat}
def cmpN (a b:Nat):Int:=if a<b then -1 else if b<a then 1 else 0
theorem Qr0 {a b:Nat} (h:a<b):cmpN a b= -1:=by simp [cmpN,h]
theorem Qwz {a b:Nat} (h:b<a):cmpN a b=1:=by simp [cmpN,h];omega
theorem Q40 (a:Nat):cmpN a a=0:=by simp [cmpN]
theorem Qzi (hB:2≤B) {a b:Nat} (h:(digs B a).length<(digs B b).length):a<b:=by
 have h1:=Qa2 hB a;have h2:=(Qck hB b _).1 h;have h3:=Nat.div_eq_zero_iff (a:=b) (b:=B^(digs B a).length);have:0<B^(digs B a).length:=Nat.pow_pos (by omega);omega
theorem Qi3 (hB:0<B) (a i:Nat):a/B^i=B*(a/B^(i+1))+a/B^i%B:=by
 rw [Nat.pow_succ,←Nat.div_div_eq_div_mul];exact(Nat.div_add_mod _ _).symm
theorem Qju (hB:0<B) {a b i:Nat} (h:a/B^(i+1)=b/B^(i+1)) (hd:a/B^i%B<b/B^i%B):a<b:=by
 have h1:=Qi3 hB a i;have h2:=Qi3 hB b i;rw [h]at h1;apply Nat.lt_of_not_le;intro hle;have:=Nat.div_le_div_right (c:=B^i) hle;omega
theorem Qqk (hB:0<B) {a b i:Nat} (h:a/B^(i+1)=b/B^(i+1)) (hd:a/B^i%B=b/B^i%B):a/B^i=b/B^i:=by
 rw [Qi3 hB a i,Qi3 hB b i,h,hd]
def bor (B a b i:Nat):Nat:=if a%B^i<b%B^i then 1 else 0
theorem Qr1 (a b:Nat):bor B a b 0=0:=by simp [bor,Nat.mod_one]
theorem Qql (a b i:Nat):bor B a b i≤1:=by unfold bor;split<;>omega
theorem Q41 (hB:0<B) {a b:Nat} (h:b≤a) (i:Nat):(a-b)/B^i+b/B^i+bor B a b i=a/B^i:=by
 have hp:0<B^i:=Nat.pow_pos hB;unfold bor;generalize B^i=P at*;have ha:=Nat.div_add_mod a P;have hb:=Nat.div_add_mod b P;have hm1:=Nat.mod_lt a hp;have hm2:=Nat.mod_lt b hp;have hle:b/P≤a/P:=Nat.div_le_div_right h;generalize a/P=x at*;generalize b/P=y at*;generalize a%P=r at*;generalize b%P=s at*;obtain⟨z,rfl⟩:=Nat.exists_eq_add_of_le hle;rw [Nat.mul_add]at ha;split
 ·rename_i hlt;have hz:z≠0:=by rintro rfl;rw [Nat.mul_zero]at ha;omega
  obtain⟨z',rfl⟩:=Nat.exists_eq_succ_of_ne_zero hz;have e:a-b=(P+r-s)+P*z':=by rw [Nat.mul_succ]at ha;omega
  rw [e,Nat.add_mul_div_left _ _ hp,Nat.div_eq_of_lt (by omega)];omega
 ·rename_i hlt;have e:a-b=(r-s)+P*z:=by omega
  rw [e,Nat.add_mul_div_left _ _ hp,Nat.div_eq_of_lt (by omega)];omega
theorem Qr2 (hB:2≤B) {a b:Nat} (h:b≤a) (i:Nat):
  (a-b)/B^i%B+b/B^i%B+bor B a b i=a/B^i%B+B*bor B a b (i+1):=by
 have hB0:0<B:=by omega
 have h1:=Q41 hB0 h i;have h2:=Q41 hB0 h (i+1);have e1:=Qi3 hB0 (a-b) i;have e2:=Qi3 hB0 b i;have e3:=Qi3 hB0 a i;have hm:=Nat.mul_add B ((a-b)/B^(i+1)+b/B^(i+1)) (bor B a b (i+1));have hm2:=Nat.mul_add B ((a-b)/B^(i+1)) (b/B^(i+1));rw [h2]at hm;omega
def mix (B V S n m:Nat):List Nat:=(List.range n).map fun j=>if j<m then V/B^j%B else S/B^j%B
theorem Qbl (V S n m:Nat):(mix B V S n m).length=n:=by simp [mix]
theorem Qc1 (V S n m j:Nat) (h:j<n):(mix B V S n m)[j]? =some (if j<m then V/B^j%B else S/B^j%B):=by simp [mix,h]
theorem Qnt (hB:0<B) {V W m j:Nat} (h:V%B^m=W%B^m) (hj:j<m):V/B^j%B=W/B^j%B:=by
 have key: ∀n,n/B^j%B=(n%B^m)/B^j%B:=by
  intro n;have e:B^m=B^j*(B*B^(m-j-1)):=by
   rw [←Nat.mul_assoc,←Nat.pow_succ,←Nat.pow_add];congr 1;omega
  rw [e,Nat.mod_mul_right_div_self,Nat.mod_mul_right_mod]
 rw [key V,key W,h]
theorem Qer (hB:0<B) {V W S n m d:Nat} (hm:m<n) (h:V%B^m=W%B^m) (hd:W/B^m%B=d):(mix B V S n m).set m d=mix B W S n (m+1):=by
 apply List.ext_getElem?;intro j;rw [List.getElem?_set];by_cases hj:j<n
 ·rw [Qc1 _ _ _ _ _ hj,Qc1 _ _ _ _ _ hj,Qbl];by_cases e:m=j
  ·subst e;simp [hj,hd]
  ·simp only [e,if_false];by_cases hlt:j<m
   ·rw [if_pos hlt,if_pos (by omega),Qnt hB h hlt]
   ·rw [if_neg hlt,if_neg (by omega)]
 ·rw [List.getElem?_eq_none (by rw [Qbl];omega),List.getElem?_eq_none (by rw [Qbl];omega),Qbl];simp;omega
theorem Qfj {V S n m:Nat} (hB:0<B) (h:V/B^m=S/B^m):mix B V S n m=lows B V n:=by
 apply List.map_congr_left;intro j _;split
 ·rfl
 ·rename_i hj;obtain⟨k,rfl⟩:=Nat.exists_eq_add_of_le (Nat.le_of_not_lt hj);rw [Nat.pow_add,←Nat.div_div_eq_div_mul,←Nat.div_div_eq_div_mul,h]
theorem Qif (V S n:Nat):mix B V S n 0=lows B S n:=by simp [mix,lows]
def mulV (B S x i b k:Nat):Nat:=S+x*B^i*(b%B^k)
theorem Qnu (S x i b:Nat):mulV B S x i b 0=S:=by simp [mulV,Nat.mod_one]
theorem Quc (S x i b k:Nat):mulV B S x i b (k+1)=mulV B S x i b k+x*(b/B^k%B)*B^(i+k):=by
 unfold mulV;rw [Nat.pow_succ,Nat.mod_mul,Nat.mul_add,Nat.pow_add];have:x*B^i*(B^k*(b/B^k%B))=x*(b/B^k%B)*(B^i*B^k):=by
  simp only [Nat.mul_assoc,Nat.mul_comm,Nat.mul_left_comm]
 rw [this];omega
def mulC (B S x i b k:Nat):Nat:=mulV B S x i b k/B^(i+k)-S/B^(i+k)
theorem Zl9 (S x i b k:Nat):S≤mulV B S x i b k:=Nat.le_add_right _ _
theorem Qm6 (S x i b k:Nat):mulC B S x i b k+S/B^(i+k)=mulV B S x i b k/B^(i+k):=by
 have:=Nat.div_le_div_right (c:=B^(i+k)) (Zl9 (B:=B) S x i b k);unfold mulC;omega
theorem Qnv (S x i b:Nat):mulC B S x i b 0=0:=by simp [mulC,Qnu]
theorem Qr3 (hB:0<B) (S x i b k:Nat):
  (S/B^(i+k)%B+mulC B S x i b k+x*(b/B^k%B))%B=mulV B S x i b (k+1)/B^(i+k)%B∧
  (S/B^(i+k)%B+mulC B S x i b k+x*(b/B^k%B))/B=mulC B S x i b (k+1):=by
 have hp:0<B^(i+k):=Nat.pow_pos hB;have h1:=Qm6 (B:=B) S x i b k;have e1:mulV B S x i b (k+1)/B^(i+k)=(S/B^(i+k)%B+mulC B S x i b k+x*(b/B^k%B))+B*(S/B^(i+k+1)):=by
  rw [Quc,Nat.add_mul_div_right _ _ hp,←h1];have:=Qi3 hB S (i+k);omega
 constructor
 ·rw [e1,Nat.add_mul_mod_self_left]
 ·have h2:=Qm6 (B:=B) S x i b (k+1);have e2:mulV B S x i b (k+1)/B^(i+(k+1))=mulV B S x i b (k+1)/B^(i+k)/B:=by
   rw [Nat.div_div_eq_div_mul,←Nat.pow_succ];rfl
  rw [e1,Nat.add_mul_div_left _ _ hB]at e2;have e3:S/B^(i+(k+1))=S/B^(i+k+1):=rfl;omega
theorem Qzj (S x i b k:Nat):mulV B S x i b k%B^(i+k)=mulV B S x i b (k+1)%B^(i+k):=by
 rw [Quc,Nat.add_mul_mod_self_right]
theorem Qnw (a i b k:Nat) (hk:b<B^k):mulV B (a%B^i*b) (a/B^i%B) i b k=a%B^(i+1)*b:=by
 unfold mulV;rw [Nat.mod_eq_of_lt hk,Nat.pow_succ,Nat.mod_mul,Nat.add_mul];congr 1;rw [Nat.mul_comm (a/B^i%B)]
theorem Q42 (hB:0<B) {S x i b k:Nat} (hx:x<B):mulC B S x i b k<B:=by
 induction k with
 |zero=>rw [Qnv];exact hB
 |succ k ih=>
  rw [←(Qr3 hB S x i b k).2,Nat.div_lt_iff_lt_mul hB];have h1:S/B^(i+k)%B<B:=Nat.mod_lt _ hB;have h2:b/B^k%B<B:=Nat.mod_lt _ hB;have h3:x*(b/B^k%B)≤(B-1)*(B-1):=Nat.mul_le_mul (by omega) (by omega);have h4:B*B=(B-1)*(B-1)+2*(B-1)+1:=by
   obtain⟨c,rfl⟩: ∃c,B=c+1:=⟨B-1,by omega⟩;simp only [Nat.add_sub_cancel,Nat.add_mul,Nat.mul_add];omega
  omega
theorem Zcv (hB:0<B) {a i b k:Nat} (hk:b<B^k):mulC B (a%B^i*b) (a/B^i%B) i b (k+1)=0:=by
 unfold mulC;rw [Qnw a i b (k+1) (Nat.lt_of_lt_of_le hk (Nat.pow_le_pow_right hB (Nat.le_succ k)))];have:a%B^(i+1)*b<B^(i+(k+1)):=by
  have h1:=Nat.mod_lt a (Nat.pow_pos (n:=i+1) hB);have e:B^(i+(k+1))=B^(i+1)*B^k:=by rw [←Nat.pow_add];congr 1;omega
  rw [e];rcases Nat.eq_zero_or_pos b with rfl|hb
  ·rw [Nat.mul_zero];exact Nat.mul_pos (Nat.pow_pos hB) (Nat.pow_pos hB)
  ·exact Nat.lt_of_lt_of_le (Nat.mul_lt_mul_of_pos_right h1 hb) (Nat.mul_le_mul_left _ (Nat.le_of_lt hk))
 rw [Nat.div_eq_of_lt this,Nat.zero_sub]
end
end Go.Dg

namespace Go.Proofs.YtlghoaggenhheaaGreat
open Go.Vl Go.RowKit Go.Dg
theorem Qsh (a b:Nat) (ha:(digs E9 a).length≤1000000000):Qae Tryz.prog 103 [di (digs E9 a),di (digs E9 b)] (.int .i64 (cmpN a b)):=by
 refine Qab (tb:=[]) 41 [.tmp 4] [0,1,4,5,10,15,20,31,40] mixed Tryz.func103 rfl (by kernel_rfl) ?_;by_cases hl:(digs E9 a).length=(digs E9 b).length
 ·have hl':(((digs E9 a).length:Int) != ((digs E9 b).length:Int))=false:=by simp [hl]
  have hw:IntKind.i64.wrap (((digs E9 a).length:Int)-1)=((digs E9 a).length:Int)-1:=Qai (by omega) (by omega);simp -implicitDefEqProofs only [go_sem,seval,di,List.length_map,hl',hw];refine Qaq mixed (fun i:{i:Nat // i≤(digs E9 a).length∧a/E9^i=b/E9^i}=>St.of [(0,di (digs E9 a)),(1,di (digs E9 b)),(4,.int .i64 0),(5,.int .i64 ((i.1:Int)-1))] []) (fun i=>i.1)
   ⟨(digs E9 a).length,Nat.le_refl _,by rw [Qbf E9_2 (Nat.le_refl _),hl,Qbf E9_2 (Nat.le_refl _)]⟩ ?_ ?_
  ·exact Qaz (by simp [Qac,lkp,ren1,ren0,di])
  ·rintro⟨i,hi,he⟩;cases i with
   |zero=>
    have h1:((0:Int)≤((0:Nat):Int)-1)=False:=by simp
    have hab:a=b:=by simpa using he
    subst hab;simp -implicitDefEqProofs only [go_sem,seval,di,h1,Q40]
   |succ i=>
    have hs:(((i+1:Nat):Int)-1)=(i:Int):=by omega
    have h1:((0:Int)≤(i:Int))=True:=by simp
    have hga:=Qat E9_2 (show i<(digs E9 a).length by omega);have hgb:=Qat E9_2 (show i<(digs E9 b).length by omega);by_cases hlt:a/E9^i%E9<b/E9^i%E9
    ·have h2:(((a/E9^i%E9:Nat):Int)<((b/E9^i%E9:Nat):Int))=True:=by simp only [eq_iff_iff,iff_true];omega
     have hc:=Qr0 (Qju (by decide) he hlt);simp -implicitDefEqProofs only [go_sem,seval,di,hs,h1,Qfl,hga,hgb,h2,hc];exact Qad _ _ (by kernel_rfl)
    ·have h2:(((a/E9^i%E9:Nat):Int)<((b/E9^i%E9:Nat):Int))=False:=by simp only [eq_iff_iff,iff_false];omega
     by_cases hgt:b/E9^i%E9<a/E9^i%E9
     ·have h3:(((b/E9^i%E9:Nat):Int)<((a/E9^i%E9:Nat):Int))=True:=by simp only [eq_iff_iff,iff_true];omega
      have hc:=Qwz (Qju (by decide) he.symm hgt);simp -implicitDefEqProofs only [go_sem,seval,di,hs,h1,Qfl,hga,hgb,h2,h3,hc];exact⟨Qad _ _ (by kernel_rfl),Qad _ _ (by kernel_rfl)⟩
     ·have h3:(((b/E9^i%E9:Nat):Int)<((a/E9^i%E9:Nat):Int))=False:=by simp only [eq_iff_iff,iff_false];omega
      have hw2:IntKind.i64.wrap ((i:Int)-1)=(i:Int)-1:=Qai (by omega) (by omega);simp -implicitDefEqProofs only [go_sem,seval,di,hs,h1,Qfl,hga,hgb,h2,h3,hw2];refine⟨Qad _ _ (by kernel_rfl),Qad _ _ (by kernel_rfl),⟨i,by omega,Qqk (by decide) he (by omega)⟩,by simp,?_⟩;exact Qaz (by simp [Qac,lkp,ren1,ren0,di])
 ·have hl':(((digs E9 a).length:Int) != ((digs E9 b).length:Int))=true:=by simp;omega
  by_cases hlt:(digs E9 a).length<(digs E9 b).length
  ·have h2:(((digs E9 a).length:Int)<((digs E9 b).length:Int))=True:=by simp;omega
   have hc:=Qr0 (Qzi E9_2 hlt);simp -implicitDefEqProofs only [go_sem,seval,di,List.length_map,hl',h2,hc]
  ·have h2:(((digs E9 a).length:Int)<((digs E9 b).length:Int))=False:=by simp;omega
   have hc:=Qwz (Qzi E9_2 (show(digs E9 b).length<(digs E9 a).length by omega));simp -implicitDefEqProofs only [go_sem,seval,di,List.length_map,hl',h2,hc]
def rI (n:Int):PV:= .agg [.bool (decide (n<0)),di (digs E9 n.natAbs)]
theorem Qgu (neg:Bool) (m:Nat):Qae Tryz.prog 87 [.bool neg,di (digs E9 m)] (rI (if neg then -(m:Int)else m)):=by
 refine Qab (tb:=[]) 13 [.cell 4 59] [0,1,4] mixed Tryz.func87 rfl (by kernel_rfl) ?_;by_cases hm:m=0
 ·subst hm;cases neg
  ·simp -implicitDefEqProofs only [go_sem,Nat.reduceAdd,Nat.reduceMul,Nat.reduceEqDiff,Nat.reduceLT,Nat.reduceLeDiff,reduceCtorEq,di,rI,Qa3];simp [Qa3]
  ·simp -implicitDefEqProofs only [go_sem,Nat.reduceAdd,Nat.reduceMul,Nat.reduceEqDiff,Nat.reduceLT,Nat.reduceLeDiff,reduceCtorEq,di,rI,Qa3];simp [Qa3]
 ·have h1:((0:Int)<((digs E9 m).length:Int))=True:=by
   have:=mt (Qbo E9_2).1 hm;simp only [eq_iff_iff,iff_true];have:=List.length_pos_iff.2 this;omega
  cases neg
  ·simp -implicitDefEqProofs only [go_sem,Nat.reduceAdd,Nat.reduceMul,Nat.reduceEqDiff,Nat.reduceLT,Nat.reduceLeDiff,reduceCtorEq,di,rI];have: ¬((m:Int)<0):=by omega
   simp [this]
  ·simp -implicitDefEqProofs only [go_sem,Nat.reduceAdd,Nat.reduceMul,Nat.reduceEqDiff,Nat.reduceLT,Nat.reduceLeDiff,reduceCtorEq,di,rI,List.length_map,h1];have: -(m:Int)<0:=by omega
   simp only [this,decide_true,Int.natAbs_neg,Int.natAbs_natCast]
theorem Qsi (a b:Nat) (hba:b≤a) (ha:(digs E9 a).length≤1000000000):Qae Tryz.prog 104 [di (digs E9 a),di (digs E9 b)] (di (digs E9 (a-b))):=by
 refine Qab (tb:=[]) 41 [.tmp 4] [0,1,4,5,6,7,8,12,24,32] mixed Tryz.func104 rfl (by kernel_rfl) ?_;simp -implicitDefEqProofs only [go_sem,seval,di];refine Qaq mixed (fun i:{i:Nat // i≤(digs E9 a).length}=>St.of [(0,di (digs E9 a)),(1,di (digs E9 b)),(4,.nilS),(5,.bs 7 1 0 i.1),(6,.int .i64 (bor E9 a b i.1:Int)),(7,.int .i64 (i.1:Int))]
  [(7,{els:=(lows E9 (a-b) i.1).map fI,esz:=1,ety:=3,fro:=0,live:=true,arr:=true})]) (fun i=>(digs E9 a).length-i.1) ⟨0,Nat.zero_le _⟩ ?_ ?_
 ·refine Qci 5 7 1 3 rfl rfl rfl (by decide) [(7,7)] rfl ?_ ?_
  ·simp [Qac,lkp,ren1,ren0,di,Qr1]
  ·simp [Qal,lkp,Box.renames,lows]
 ·rintro⟨i,hi⟩;have h0:(0≤(i:Int))=True:=by simp
  have hll:=Qak (B:=E9) (a-b) i;have hbl:=Qql (B:=E9) a b i;have hbl2:=Qql (B:=E9) a b (i+1);have hst:=Qr2 E9_2 hba i;have hda:a/E9^i%E9<E9:=Nat.mod_lt _ (by decide);have hdb:b/E9^i%E9<E9:=Nat.mod_lt _ (by decide);have hdc:(a-b)/E9^i%E9<E9:=Nat.mod_lt _ (by decide);have hb1:((i+1)*8≤140737488355328)=True:=by simp;omega
  have hb2:(i+1≤maxLen)=True:=by simp [maxLen];omega
  have hwi:=Qah (a:=i) (by omega);by_cases hA:i<(digs E9 a).length
  ·have hA':((i:Int)<((digs E9 a).length:Int))=True:=by simp;omega
   have hga:=Qat E9_2 hA;have next: ∀s,Le s (St.of [(0,di (digs E9 a)),(1,di (digs E9 b)),(4,.nilS),(5,.bs 7 1 0 (i+1)),(6,.int .i64 (bor E9 a b (i+1):Int)),(7,.int .i64 ((i+1:Nat):Int))]
     [(7,{els:=(lows E9 (a-b) (i+1)).map fI,esz:=1,ety:=3,fro:=0,live:=true,arr:=true})])→
     ∃y:{i:Nat // i≤(digs E9 a).length},(digs E9 a).length-y.1<(digs E9 a).length-i∧
      Le s (St.of [(0,di (digs E9 a)),(1,di (digs E9 b)),(4,.nilS),(5,.bs 7 1 0 y.1),(6,.int .i64 (bor E9 a b y.1:Int)),(7,.int .i64 (y.1:Int))]
       [(7,{els:=(lows E9 (a-b) y.1).map fI,esz:=1,ety:=3,fro:=0,live:=true,arr:=true})]):=
    fun s hle=>⟨⟨i+1,hA⟩,by simp only;omega,hle⟩
   generalize hx:a/E9^i%E9=x at*;generalize hy:b/E9^i%E9=y at*;have hz:(a-b)/E9^i%E9+y+bor E9 a b i=x+E9*bor E9 a b (i+1):=hst;have w1:IntKind.i64.wrap ((x:Int)-(bor E9 a b i:Int))=(x:Int)-(bor E9 a b i:Int):=Qai (by simp only [E9]at*;omega) (by simp only [E9]at*;omega);have w2:IntKind.i64.wrap ((x:Int)-(bor E9 a b i:Int)-(y:Int))=(x:Int)-(bor E9 a b i:Int)-(y:Int):=Qai (by simp only [E9]at*;omega) (by simp only [E9]at*;omega);have fin: ∀t:Int,t=(x:Int)-(bor E9 a b i:Int)-(y:Int)→(t<0→bor E9 a b (i+1)=1∧t+1000000000=(((a-b)/E9^i%E9:Nat):Int))∧(¬t<0→bor E9 a b (i+1)=0∧t=(((a-b)/E9^i%E9:Nat):Int)):=by
    intro t ht;simp only [E9]at*;constructor
    ·intro h;constructor<;>omega
    ·intro h;constructor<;>omega
   by_cases hB:i<(digs E9 b).length
   ·have hB':((i:Int)<((digs E9 b).length:Int))=True:=by simp;omega
    have hgb:=Qat E9_2 hB;rw [hy]at hgb;obtain⟨f1,f2⟩:=fin _ rfl;by_cases hn:(x:Int)-(bor E9 a b i:Int)-(y:Int)<0
    ·have hn':((x:Int)-(bor E9 a b i:Int)-(y:Int)<0)=True:=by simp only [eq_iff_iff,iff_true];exact hn
     obtain⟨k1,k2⟩:=f1 hn;have w3:IntKind.i64.wrap ((x:Int)-(bor E9 a b i:Int)-(y:Int)+1000000000)=(((a-b)/E9^i%E9:Nat):Int):=by rw [k2];exact wrapn (by simp only [E9]at*;omega)
     simp -implicitDefEqProofs only [go_sem,seval,di,List.length_map,hA',hB',h0,Qfl,hga,hgb,w1,w2,w3,hn',hll,Ql2,hb1,hb2,hwi];refine next _ (Qaj (θ:=[(7,1203)]) rfl ?_ ?_)
     ·simp [Qac,lkp,ren1,ren0,di,k1]
     ·simp [Qal,lkp,Box.renames,Qdn]
    ·have hn':((x:Int)-(bor E9 a b i:Int)-(y:Int)<0)=False:=by simp only [eq_iff_iff,iff_false];exact hn
     obtain⟨k1,k2⟩:=f2 hn;simp -implicitDefEqProofs only [go_sem,seval,di,List.length_map,hA',hB',h0,Qfl,hga,hgb,w1,w2,hn',hll,Ql2,hb1,hb2,hwi];refine next _ (Qaj (θ:=[(7,1203)]) rfl ?_ ?_)
     ·simp [Qac,lkp,ren1,ren0,di,k1]
     ·simp [Qal,lkp,Box.renames,Qdn,k2]
   ·have hB':((i:Int)<((digs E9 b).length:Int))=False:=by simp;omega
    have hy0:y=0:=by rw [←hy,Qbf E9_2 (Nat.le_of_not_lt hB),Nat.zero_mod]
    obtain⟨f1,f2⟩:=fin ((x:Int)-(bor E9 a b i:Int)) (by omega);by_cases hn:(x:Int)-(bor E9 a b i:Int)<0
    ·have hn':((x:Int)-(bor E9 a b i:Int)<0)=True:=by simp only [eq_iff_iff,iff_true];exact hn
     obtain⟨k1,k2⟩:=f1 hn;have w3:IntKind.i64.wrap ((x:Int)-(bor E9 a b i:Int)+1000000000)=(((a-b)/E9^i%E9:Nat):Int):=by rw [k2];exact wrapn (by simp only [E9]at*;omega)
     simp -implicitDefEqProofs only [go_sem,seval,di,List.length_map,hA',hB',h0,Qfl,hga,w1,w3,hn',hll,Ql2,hb1,hb2,hwi];refine next _ (Qaj (θ:=[(7,1203)]) rfl ?_ ?_)
     ·simp [Qac,lkp,ren1,ren0,di,k1]
     ·simp [Qal,lkp,Box.renames,Qdn]
    ·have hn':((x:Int)-(bor E9 a b i:Int)<0)=False:=by simp only [eq_iff_iff,iff_false];exact hn
     obtain⟨k1,k2⟩:=f2 hn;simp -implicitDefEqProofs only [go_sem,seval,di,List.length_map,hA',hB',h0,Qfl,hga,w1,hn',hll,Ql2,hb1,hb2,hwi];refine next _ (Qaj (θ:=[(7,1203)]) rfl ?_ ?_)
     ·simp [Qac,lkp,ren1,ren0,di,k1]
     ·simp [Qal,lkp,Box.renames,Qdn,k2]
  ·have hA':((i:Int)<((digs E9 a).length:Int))=False:=by simp;omega
   have htk:((lows E9 (a-b) i).map fI).take i=(lows E9 (a-b) i).map fI:=List.take_of_length_le (by simp [hll]);have hlt:a-b<E9^i:=Nat.lt_of_le_of_lt (Nat.sub_le _ _) ((Qar E9_2 a i).1 (by omega));simp -implicitDefEqProofs only [go_sem,seval,di,List.length_map,hA',hll,htk];refine Qag _ _ _ _ _ _ _ _ _ (Qlb (lows E9 (a-b) i) (by rw [hll];simp [maxLen];omega)) ?_;simp -implicitDefEqProofs only [go_sem,seval,di];rw [Qbt E9_2,Nat.mod_eq_of_lt hlt]
theorem Quk (n:Nat):lows E9 0 n=List.replicate n 0:=by
 apply List.ext_getElem?;intro k;by_cases h:k<n
 ·rw [Qb2 _ _ _ h];simp [h]
 ·rw [List.getElem?_eq_none (by rw [Qak];omega),List.getElem?_eq_none (by simp;omega)]
theorem Qzt (l:List Nat) (i:Nat) (d:Nat):(l.map fI).set i (PV.int .i64 (d:Int))=(l.set i d).map fI:=(List.map_set (f:=fI)).symm
theorem Zx7 (l:List Nat) (k:Nat):(l.map fI)[k]? =l[k]?.map fun d:Nat=>PV.int .i64 (d:Int):=List.getElem?_map
theorem Qzu (a b:Nat) (hab:(digs E9 a).length+(digs E9 b).length≤1000000000):Qae Tryz.prog 98 [di (digs E9 a),di (digs E9 b)] (di (digs E9 (a*b))):=by
 refine Qab (tb:=[]) 66 [.tmp 4] [0,1,4,5,6,7,8,9,19,29,43] mixed Tryz.func98 rfl (by kernel_rfl) ?_;have hw0:=Qcr (a:=(digs E9 a).length) (b:=(digs E9 b).length) (by omega);have hn0:((0:Int)≤(((digs E9 a).length+(digs E9 b).length:Nat):Int))=True:=by simp only [eq_iff_iff,iff_true];omega
 have hn1:((8:Nat):Int)*(((digs E9 a).length+(digs E9 b).length:Nat):Int)≤281474976710656:=by omega
 have hn2:(((digs E9 a).length+(digs E9 b).length:Nat):Int)≤9223372036854775807:=by omega
 simp -implicitDefEqProofs only [go_sem,Nat.reduceAdd,Nat.reduceMul,Nat.reduceEqDiff,Nat.reduceLT,Nat.reduceLeDiff,reduceCtorEq,di,List.length_map,hw0,hn0,hn1,hn2];have hrep:List.replicate ((digs E9 a).length+(digs E9 b).length) (PV.int .i64 0)=(lows E9 0 ((digs E9 a).length+(digs E9 b).length)).map fI:=by rw [Quk];simp
 rw [hrep];generalize hla:(digs E9 a).length=la at*;generalize hlb:(digs E9 b).length=lb at*;refine Qaq mixed (fun i:{i:Nat // i≤la}=>St.of [(0,di (digs E9 a)),(1,di (digs E9 b)),(4,.nilS),(5,.bs 105 1 0 (la+lb)),(6,.int .i64 (i.1:Int))]
  [(105,{els:=(lows E9 (a%E9^i.1*b) (la+lb)).map fI,esz:=1,ety:=3,fro:=0,live:=true,arr:=true})]) (fun i=>la-i.1) ⟨0,Nat.zero_le _⟩ ?_ ?_
 ·refine Qaj (θ:=[(105,105)]) rfl ?_ ?_
  ·simp [Qac,lkp,ren1,ren0,di]
  ·simp [Qal,lkp,Box.renames,Nat.mod_one]
 ·rintro⟨i,hi⟩;by_cases hA:i<la
  ·have hA':((i:Int)<(la:Int))=True:=by simp;omega
   have h0:(0≤(i:Int))=True:=by simp
   have hga:=Qat E9_2 (show i<(digs E9 a).length by omega);have hblt:b<E9^lb:=by rw [←hlb];exact Qa2 E9_2 b
   simp -implicitDefEqProofs only [go_sem,Nat.reduceAdd,Nat.reduceMul,Nat.reduceEqDiff,Nat.reduceLT,Nat.reduceLeDiff,reduceCtorEq,di,List.length_map,hla,hA'];generalize hS:a%E9^i*b=S at*;generalize hx:a/E9^i%E9=x at*;have hxl:x<E9:=by rw [←hx];exact Nat.mod_lt _ (by decide)
   refine Qaq mixed (fun k:{k:Nat // k≤lb+1}=>St.of [(0,di (digs E9 a)),(1,di (digs E9 b)),(4,.nilS),(5,.bs 105 1 0 (la+lb)),(6,.int .i64 (i:Int)),(7,.int .i64 (mulC E9 S x i b k.1:Int)),(8,.int .i64 (k.1:Int))]
    [(105,{els:=(mix E9 (mulV E9 S x i b k.1) S (la+lb) (i+k.1)).map fI,esz:=1,ety:=3,fro:=0,live:=true,arr:=true})]) (fun k=>lb+1-k.1) ⟨0,Nat.zero_le _⟩ ?_ ?_
   ·refine Qaj (θ:=[(105,105)]) rfl ?_ ?_
    ·simp [Qac,lkp,ren1,ren0,di,Qnv]
    ·simp only [Qal,lkp,Box.renames,Qnu,Nat.add_zero,and_self,and_true,true_and,if_true];rw [Qfj (by decide) rfl];exact .inl rfl
   ·rintro⟨k,hk⟩;have hcl:=Q42 (B:=E9) (S:=S) (i:=i) (b:=b) (k:=k) (by decide) hxl;obtain⟨hs1,hs2⟩:(S/E9^(i+k)%E9+mulC E9 S x i b k+x*(b/E9^k%E9))%1000000000=mulV E9 S x i b (k+1)/E9^(i+k)%E9∧(S/E9^(i+k)%E9+mulC E9 S x i b k+x*(b/E9^k%E9))/1000000000=mulC E9 S x i b (k+1):=Qr3 (B:=E9) (by decide) S x i b k;have hk0:(0≤(k:Int))=True:=by simp
    have hd1:S/E9^(i+k)%E9<E9:=Nat.mod_lt _ (by decide);have hd2:b/E9^k%E9<E9:=Nat.mod_lt _ (by decide);have hend:k=lb+1→mulC E9 S x i b k=0:=by
     rintro rfl;rw [←hS,←hx];exact Zcv (by decide) hblt
    have hwik:=Qcr (a:=i) (b:=k) (by omega);have hik0:((0:Int)≤((i+k:Nat):Int))=True:=by simp only [eq_iff_iff,iff_true];omega
    have hwk:=Qah (a:=k) (by omega);have hmul:x*(b/E9^k%E9)≤999999999*999999999:=Nat.mul_le_mul (by simp only [E9]at*;omega) (by simp only [E9]at*;omega);have hml:=Qbl (B:=E9) (mulV E9 S x i b k) S (la+lb) (i+k);by_cases hmore:k<lb∨0<mulC E9 S x i b k
    ·have hklb:k≤lb:=by
      rcases hmore with h|h
      ·omega
      ·rcases Nat.lt_or_ge lb k with h'|h'
       ·have:=hend (by omega);omega
       ·exact h'
     have hin:i+k<la+lb:=by omega
     have hin':(((i+k:Nat):Int)<((la+lb:Nat):Int))=True:=by simp only [eq_iff_iff,iff_true];omega
     have hget:(mix E9 (mulV E9 S x i b k) S (la+lb) (i+k))[i+k]? =some (S/E9^(i+k)%E9):=by rw [Qc1 _ _ _ _ _ hin,if_neg (Nat.lt_irrefl _)]
     have hset:=Qer (B:=E9) (S:=S) (by decide) hin (Qzj (B:=E9) S x i b k) rfl;have next: ∀s,Le s (St.of [(0,di (digs E9 a)),(1,di (digs E9 b)),(4,.nilS),(5,.bs 105 1 0 (la+lb)),(6,.int .i64 (i:Int)),(7,.int .i64 (mulC E9 S x i b (k+1):Int)),(8,.int .i64 ((k+1:Nat):Int))]
       [(105,{els:=(mix E9 (mulV E9 S x i b (k+1)) S (la+lb) (i+k+1)).map fI,esz:=1,ety:=3,fro:=0,live:=true,arr:=true})])→
       ∃y:{k:Nat // k≤lb+1},lb+1-y.1<lb+1-k∧Le s (St.of [(0,di (digs E9 a)),(1,di (digs E9 b)),(4,.nilS),(5,.bs 105 1 0 (la+lb)),(6,.int .i64 (i:Int)),(7,.int .i64 (mulC E9 S x i b y.1:Int)),(8,.int .i64 (y.1:Int))]
        [(105,{els:=(mix E9 (mulV E9 S x i b y.1) S (la+lb) (i+y.1)).map fI,esz:=1,ety:=3,fro:=0,live:=true,arr:=true})]):=
      fun s h=>⟨⟨k+1,by omega⟩,by simp only;omega,h⟩
     have w1:=Qcr (a:=S/E9^(i+k)%E9) (b:=mulC E9 S x i b k) (by simp only [E9]at*;omega);by_cases hB:k<lb
     ·have hB':((k:Int)<(lb:Int))=True:=by simp;omega
      have hgb:=Qat E9_2 (show k<(digs E9 b).length by omega);have w2:IntKind.i64.wrap ((x:Int)*((b/E9^k%E9:Nat):Int))=((x*(b/E9^k%E9):Nat):Int):=by
       rw [←Int.natCast_mul];exact wrapn (by omega)
      have w3:=Qcr (a:=S/E9^(i+k)%E9+mulC E9 S x i b k) (b:=x*(b/E9^k%E9)) (by simp only [E9]at*;omega);have w4:=wrapn (n:=(S/E9^(i+k)%E9+mulC E9 S x i b k+x*(b/E9^k%E9))/1000000000) (by simp only [E9]at*;omega);simp -implicitDefEqProofs only [go_sem,Nat.reduceAdd,Nat.reduceMul,Nat.reduceEqDiff,Nat.reduceLT,Nat.reduceLeDiff,reduceIte,reduceCtorEq,Int.reduceEq,di,List.length_map,hlb,hB',h0,hk0,Qfl,hga,hgb,hget,w1,w2,w3,w4,Qsf,Qsg,hwik,hik0,hin',hwk,Qzt,hs1,hset];refine⟨Qad _ _ (by kernel_rfl),next _ (Qaj (θ:=[(105,105)]) rfl ?_ ?_)⟩
      ·simp [Qac,lkp,ren1,ren0,di,hs2]
      ·simp [Qal,lkp,Box.renames]
     ·have hB':((k:Int)<(lb:Int))=False:=by simp;omega
      have hC:=hmore.resolve_left hB;have hC':((0:Int)<(mulC E9 S x i b k:Int))=True:=by simp;omega
      have hb0:b/E9^k%E9=0:=by rw [Qbf E9_2 (by omega),Nat.zero_mod]
      rw [hb0,Nat.mul_zero,Nat.add_zero]at hs1 hs2;have w4:=wrapn (n:=(S/E9^(i+k)%E9+mulC E9 S x i b k)/1000000000) (by simp only [E9]at*;omega);simp -implicitDefEqProofs only [go_sem,Nat.reduceAdd,Nat.reduceMul,Nat.reduceEqDiff,Nat.reduceLT,Nat.reduceLeDiff,reduceIte,reduceCtorEq,Int.reduceEq,di,List.length_map,hlb,hB',hC',Qfl,hget,w1,w4,Qsf,Qsg,hwik,hik0,hin',hwk,Qzt,hs1,hset];refine next _ (Qaj (θ:=[(105,105)]) rfl ?_ ?_)
      ·simp [Qac,lkp,ren1,ren0,di,hs2]
      ·simp [Qal,lkp,Box.renames]
    ·have hB':((k:Int)<(lb:Int))=False:=by simp;omega
     have hC0:mulC E9 S x i b k=0:=by omega
     have hC':((0:Int)<(mulC E9 S x i b k:Int))=False:=by simp;omega
     have hwi:=Qah (a:=i) (by omega);have hV:mulV E9 S x i b k=a%E9^(i+1)*b:=by
      rw [←hS,←hx];exact Qnw a i b k (Nat.lt_of_lt_of_le hblt (Nat.pow_le_pow_right (by decide) (by omega)))
     have hmx:=Qfj (B:=E9) (V:=mulV E9 S x i b k) (S:=S) (n:=la+lb) (m:=i+k) (by decide) (by have:=Qm6 (B:=E9) S x i b k;omega);rw [hV]at hmx;simp -implicitDefEqProofs only [go_sem,Nat.reduceAdd,Nat.reduceMul,Nat.reduceEqDiff,Nat.reduceLT,Nat.reduceLeDiff,reduceIte,reduceCtorEq,di,List.length_map,hlb,hB',hC',hwi];refine⟨⟨i+1,hA⟩,by simp only;omega,Qaj (θ:=[(105,105)]) rfl ?_ ?_⟩
     ·simp [Qac,lkp,ren1,ren0,di]
     ·simp [Qal,lkp,Box.renames,hmx,hV]
  ·have hA':((i:Int)<(la:Int))=False:=by simp;omega
   have hlt:a<E9^i:=(Qar E9_2 a i).1 (by omega);have hblt:b<E9^lb:=by rw [←hlb];exact Qa2 E9_2 b
   have hil:i=la:=by omega
   have hll:=Qak (B:=E9) (a%E9^i*b) (la+lb);have htk:((lows E9 (a%E9^i*b) (la+lb)).map fI).take (la+lb)=(lows E9 (a%E9^i*b) (la+lb)).map fI:=List.take_of_length_le (by simp [hll]);simp -implicitDefEqProofs only [go_sem,Nat.reduceAdd,Nat.reduceMul,Nat.reduceEqDiff,Nat.reduceLT,Nat.reduceLeDiff,reduceIte,reduceCtorEq,di,List.length_map,hla,hA',hll,htk];refine Qag _ _ _ _ _ _ _ _ _ (Qlb (lows E9 (a%E9^i*b) (la+lb)) (by rw [hll];simp [maxLen];omega)) ?_;simp -implicitDefEqProofs only [go_sem,Nat.reduceAdd,Nat.reduceEqDiff,Nat.reduceLT,reduceCtorEq,di];rw [Qbt E9_2,Nat.mod_eq_of_lt hlt,Nat.mod_eq_of_lt];rw [Nat.pow_add,←hil];rcases Nat.eq_zero_or_pos b with rfl|hb
   ·rw [Nat.mul_zero];exact Nat.mul_pos (Nat.pow_pos (by decide)) (Nat.pow_pos (by decide))
   ·exact Nat.lt_of_lt_of_le (Nat.mul_lt_mul_of_pos_right hlt hb) (Nat.mul_le_mul_left _ (Nat.le_of_lt hblt))
theorem Qzv {n:Nat} (h0:n≠0) (h:n<E9):digs E9 n=[n]:=by
 rw [Qga E9_2 h0,Nat.mod_eq_of_lt h,Nat.div_eq_of_lt h,Qa3]
theorem Qzw (a n:Nat) (hn:n<E9) (ha:(digs E9 a).length≤100000000):Qae Tryz.prog 127 [di (digs E9 a),.int .i64 (n:Int)] (di (digs E9 (a*n))):=by
 refine Qab (tb:=[]) 11 [.tmp 4] [0,1,4,6] mixed Tryz.func127 rfl (by kernel_rfl) ?_;by_cases h0:n=0
 ·subst h0;have h1:(((0:Nat):Int)==0)=true:=rfl;simp -implicitDefEqProofs only [go_sem,seval,di,h1];simp [Qa3]
 ·have h1:((n:Int)==0)=false:=by simp;omega
  simp -implicitDefEqProofs only [go_sem,seval,di,h1];have:=Qzu a n (by rw [Qzv h0 hn];simp;omega);rw [Qzv h0 hn]at this;refine Qag _ _ _ _ _ _ _ _ _ this ?_;simp -implicitDefEqProofs only [go_sem,seval,di]
end Go.Proofs.YtlghoaggenhheaaGreat

namespace Go.Vl
open Go.RowKit
theorem Zvl (P:Program) (t:TypeId) (xs ys:List PV):Qb1 .eql t P (.agg xs) (.agg ys)=match Qdy P t with
  |some sh=>match Qbc sh xs ys with
   |some b=>some (.bool b)
   |none=>none
  |none=>none:=by
 unfold Qb1;cases Qdy P t with
 |none=>rfl
 |some sh=>simp only;cases Qbc sh xs ys<;>rfl
theorem Zvm (P:Program) (t:TypeId) (xs ys:List PV):Qb1 .neq t P (.agg xs) (.agg ys)=match Qdy P t with
  |some sh=>match Qbc sh xs ys with
   |some b=>some (.bool !b)
   |none=>none
  |none=>none:=by
 unfold Qb1;cases Qdy P t with
 |none=>rfl
 |some sh=>simp only;cases Qbc sh xs ys<;>rfl
attribute [go_sem] Zvl Zvm
end Go.Vl
