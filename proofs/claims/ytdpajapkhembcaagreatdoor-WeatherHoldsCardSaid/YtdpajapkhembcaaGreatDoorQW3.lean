/-
  QTy, Dg, QA1, Dn, QA2, Dm, QA3, QA4, QA5, UW, QA6, Bx, QA7, QA8, Dt, QA9, Db, QA10, Bw, QW1, QW2, QW3 (merged for the claim).
-/
import Derived.Test.YtdpajapkhembcaaGreatDoorUV
import Derived.Test.YtdpajapkhembcaaGreatDoorProg
import Derived.Shelf.Spec.BitsCarry
set_option linter.unusedSimpArgs false
set_option linter.unusedVariables false
namespace Go.Proofs.YtdpajapkhembcaaGreatDoor
open Go.Vl
theorem mixed:Tryz.prog.follows .mixedOrders=true:=by kernel_rfl
theorem Zqp:Tryz.prog.underlying 9=some .string:=by kernel_rfl
theorem Zts (s:ByteArray):Qa9 Tryz.prog 9 (.str s)=some (.int .i64 s.size):=by simp only [Qa9,Zqp]
theorem Qjb:Tryz.prog.underlying 22=some (.slice 9):=by kernel_rfl
theorem Zhh (es:List PV):Qa9 Tryz.prog 22 (.slc es)=some (.int .i64 es.length):=by simp only [Qa9,Qjb]
theorem Zhi:Qa9 Tryz.prog 22 .nilS=some (.int .i64 0):=by simp only [Qa9,Qjb]
theorem Zhj (b e o n:Nat):Qa9 Tryz.prog 22 (.bs b e o n)=some (.int .i64 n):=by simp only [Qa9,Qjb]
theorem Tc0:tyOk Tryz.prog 3=true∧Qbb Tryz.prog 3=false∧(Tryz.prog.info? 3).isSome=true∧Qap Tryz.prog 3=some (1,8)∧Tryz.prog.cellsOf 3=1∧Qar Tryz.prog 3=some (PV.int IntKind.i64 0)∧Tryz.prog.underlying 3=some (.int .i64)∧tyOk Tryz.prog 4=true∧Qbb Tryz.prog 4=false∧(Tryz.prog.info? 4).isSome=true∧Qap Tryz.prog 4=some (1,1)∧Tryz.prog.cellsOf 4=1∧Qar Tryz.prog 4=some (PV.bool Bool.false)∧Tryz.prog.underlying 4=some .bool∧tyOk Tryz.prog 5=true∧Qbb Tryz.prog 5=false∧(Tryz.prog.info? 5).isSome=true∧Qap Tryz.prog 5=some (1,1)∧Tryz.prog.cellsOf 5=1∧Qar Tryz.prog 5=some (PV.int IntKind.u8 0)∧Tryz.prog.underlying 5=some (.int .u8)∧tyOk Tryz.prog 9=true∧Qbb Tryz.prog 9=false∧(Tryz.prog.info? 9).isSome=true∧Qap Tryz.prog 9=some (1,16)∧Tryz.prog.cellsOf 9=1∧Qar Tryz.prog 9=some (PV.str {data:={toList:=[]}})∧tyOk Tryz.prog 22=true∧Qbb Tryz.prog 22=false∧(Tryz.prog.info? 22).isSome=true∧Qap Tryz.prog 22=some (1,24)∧Tryz.prog.cellsOf 22=1∧Qar Tryz.prog 22=some PV.nilS∧Qbz Tryz.prog 22=some 9∧tyOk Tryz.prog 23=true∧Qbb Tryz.prog 23=false∧(Tryz.prog.info? 23).isSome=true∧Qap Tryz.prog 23=some (1,24)∧Tryz.prog.cellsOf 23=1∧Qar Tryz.prog 23=some PV.nilS:=by repeat' (first | kernel_rfl | constructor)
theorem Qjc:Tryz.prog.underlying 23=some (.slice 69):=by kernel_rfl
theorem Zhn (es:List PV):Qa9 Tryz.prog 23 (.slc es)=some (.int .i64 es.length):=by simp only [Qa9,Qjc]
theorem Zho:Qa9 Tryz.prog 23 .nilS=some (.int .i64 0):=by simp only [Qa9,Qjc]
theorem Zhp (b e o n:Nat):Qa9 Tryz.prog 23 (.bs b e o n)=some (.int .i64 n):=by simp only [Qa9,Qjc]
theorem Qjd:Tryz.prog.underlying 24=some (.slice 65):=by kernel_rfl
theorem Zht (es:List PV):Qa9 Tryz.prog 24 (.slc es)=some (.int .i64 es.length):=by simp only [Qa9,Qjd]
theorem Zhu:Qa9 Tryz.prog 24 .nilS=some (.int .i64 0):=by simp only [Qa9,Qjd]
theorem Zhv (b e o n:Nat):Qa9 Tryz.prog 24 (.bs b e o n)=some (.int .i64 n):=by simp only [Qa9,Qjd]
theorem Tc1:Qbz Tryz.prog 23=some 69∧tyOk Tryz.prog 24=true∧Qbb Tryz.prog 24=false∧(Tryz.prog.info? 24).isSome=true∧Qap Tryz.prog 24=some (1,24)∧Tryz.prog.cellsOf 24=1∧Qar Tryz.prog 24=some PV.nilS∧Qbz Tryz.prog 24=some 65∧tyOk Tryz.prog 26=true∧Qbb Tryz.prog 26=true∧(Tryz.prog.info? 26).isSome=true∧Qap Tryz.prog 26=some (3,72)∧Tryz.prog.cellsOf 26=3∧Qar Tryz.prog 26=some (PV.agg [PV.nilS,PV.nilS,PV.nilS])∧buildable Tryz.prog 26=true∧Qat Tryz.prog 26 0=some (0,22,1)∧Qad Tryz.prog 26 0=some (0,1)∧Qat Tryz.prog 26 1=some (1,23,1)∧Qad Tryz.prog 26 1=some (1,1)∧Qat Tryz.prog 26 2=some (2,24,1)∧Qad Tryz.prog 26 2=some (2,1)∧tyOk Tryz.prog 28=true∧Qbb Tryz.prog 28=true∧(Tryz.prog.info? 28).isSome=true∧Qap Tryz.prog 28=some (5,40)∧Tryz.prog.cellsOf 28=5∧Qar Tryz.prog 28=some (PV.agg [PV.int IntKind.i64 0,PV.int IntKind.i64 0,PV.int IntKind.i64 0,PV.int IntKind.i64 0,PV.int IntKind.i64 0])∧buildable Tryz.prog 28=true∧Qat Tryz.prog 28 0=some (0,3,1)∧Qad Tryz.prog 28 0=some (0,1)∧Qat Tryz.prog 28 1=some (1,3,1)∧Qad Tryz.prog 28 1=some (1,1)∧Qat Tryz.prog 28 2=some (2,3,1)∧Qad Tryz.prog 28 2=some (2,1)∧Qat Tryz.prog 28 3=some (3,3,1)∧Qad Tryz.prog 28 3=some (3,1)∧Qat Tryz.prog 28 4=some (4,3,1)∧Qad Tryz.prog 28 4=some (4,1)∧Qci Tryz.prog 28=some [1,1,1,1,1]∧tyOk Tryz.prog 29=true:=by repeat' (first | kernel_rfl | constructor)
theorem Qje:Tryz.prog.underlying 29=some (.slice 71):=by kernel_rfl
theorem Zh3 (es:List PV):Qa9 Tryz.prog 29 (.slc es)=some (.int .i64 es.length):=by simp only [Qa9,Qje]
theorem Zh4:Qa9 Tryz.prog 29 .nilS=some (.int .i64 0):=by simp only [Qa9,Qje]
theorem Zh5 (b e o n:Nat):Qa9 Tryz.prog 29 (.bs b e o n)=some (.int .i64 n):=by simp only [Qa9,Qje]
theorem Qjf:Tryz.prog.underlying 45=some (.slice 39):=by kernel_rfl
theorem Zif (es:List PV):Qa9 Tryz.prog 45 (.slc es)=some (.int .i64 es.length):=by simp only [Qa9,Qjf]
theorem Zig:Qa9 Tryz.prog 45 .nilS=some (.int .i64 0):=by simp only [Qa9,Qjf]
theorem Zih (b e o n:Nat):Qa9 Tryz.prog 45 (.bs b e o n)=some (.int .i64 n):=by simp only [Qa9,Qjf]
theorem Tc2:Qbb Tryz.prog 29=false∧(Tryz.prog.info? 29).isSome=true∧Qap Tryz.prog 29=some (1,24)∧Tryz.prog.cellsOf 29=1∧Qar Tryz.prog 29=some PV.nilS∧Qbz Tryz.prog 29=some 71∧tyOk Tryz.prog 31=true∧Qbb Tryz.prog 31=true∧(Tryz.prog.info? 31).isSome=true∧Qap Tryz.prog 31=some (2,16)∧Tryz.prog.cellsOf 31=2∧Qar Tryz.prog 31=some (PV.agg [PV.int IntKind.i64 0,PV.int IntKind.i64 0])∧buildable Tryz.prog 31=true∧Qat Tryz.prog 31 0=some (0,3,1)∧Qad Tryz.prog 31 0=some (0,1)∧Qat Tryz.prog 31 1=some (1,3,1)∧Qad Tryz.prog 31 1=some (1,1)∧Qci Tryz.prog 31=some [1,1]∧tyOk Tryz.prog 35=true∧Qbb Tryz.prog 35=false∧(Tryz.prog.info? 35).isSome=true∧Qap Tryz.prog 35=some (1,8)∧Tryz.prog.cellsOf 35=1∧Qar Tryz.prog 35=some (PV.int IntKind.i64 0)∧Tryz.prog.underlying 35=some (.int .i64)∧tyOk Tryz.prog 39=true∧Qbb Tryz.prog 39=false∧(Tryz.prog.info? 39).isSome=true∧Qap Tryz.prog 39=some (1,8)∧Tryz.prog.cellsOf 39=1∧Qar Tryz.prog 39=some (PV.int IntKind.i64 0)∧Tryz.prog.underlying 39=some (.int .i64)∧tyOk Tryz.prog 45=true∧Qbb Tryz.prog 45=false∧(Tryz.prog.info? 45).isSome=true∧Qap Tryz.prog 45=some (1,24)∧Tryz.prog.cellsOf 45=1∧Qar Tryz.prog 45=some PV.nilS∧Qbz Tryz.prog 45=some 39∧tyOk Tryz.prog 53=true:=by repeat' (first | kernel_rfl | constructor)
theorem Qjg:Tryz.prog.underlying 53=some (.slice 3):=by kernel_rfl
theorem Zil (es:List PV):Qa9 Tryz.prog 53 (.slc es)=some (.int .i64 es.length):=by simp only [Qa9,Qjg]
theorem Zim:Qa9 Tryz.prog 53 .nilS=some (.int .i64 0):=by simp only [Qa9,Qjg]
theorem Zin (b e o n:Nat):Qa9 Tryz.prog 53 (.bs b e o n)=some (.int .i64 n):=by simp only [Qa9,Qjg]
theorem Qjh:Tryz.prog.underlying 63=some (.slice 104):=by kernel_rfl
theorem Zir (es:List PV):Qa9 Tryz.prog 63 (.slc es)=some (.int .i64 es.length):=by simp only [Qa9,Qjh]
theorem Zis:Qa9 Tryz.prog 63 .nilS=some (.int .i64 0):=by simp only [Qa9,Qjh]
theorem Zit (b e o n:Nat):Qa9 Tryz.prog 63 (.bs b e o n)=some (.int .i64 n):=by simp only [Qa9,Qjh]
theorem Tc3:Qbb Tryz.prog 53=false∧(Tryz.prog.info? 53).isSome=true∧Qap Tryz.prog 53=some (1,24)∧Tryz.prog.cellsOf 53=1∧Qar Tryz.prog 53=some PV.nilS∧Qbz Tryz.prog 53=some 3∧tyOk Tryz.prog 63=true∧Qbb Tryz.prog 63=false∧(Tryz.prog.info? 63).isSome=true∧Qap Tryz.prog 63=some (1,24)∧Tryz.prog.cellsOf 63=1∧Qar Tryz.prog 63=some PV.nilS∧Qbz Tryz.prog 63=some 104∧tyOk Tryz.prog 65=true∧Qbb Tryz.prog 65=true∧(Tryz.prog.info? 65).isSome=true∧Qap Tryz.prog 65=some (3,48)∧Tryz.prog.cellsOf 65=3∧Qar Tryz.prog 65=some (PV.agg [PV.str {data:={toList:=[]}},PV.int IntKind.i64 0,PV.nilS])∧buildable Tryz.prog 65=true∧Qat Tryz.prog 65 0=some (0,9,1)∧Qad Tryz.prog 65 0=some (0,1)∧Qat Tryz.prog 65 1=some (1,3,1)∧Qad Tryz.prog 65 1=some (1,1)∧Qat Tryz.prog 65 2=some (2,63,1)∧Qad Tryz.prog 65 2=some (2,1)∧tyOk Tryz.prog 69=true∧Qbb Tryz.prog 69=true∧(Tryz.prog.info? 69).isSome=true∧Qap Tryz.prog 69=some (3,24)∧Tryz.prog.cellsOf 69=3∧Qar Tryz.prog 69=some (PV.agg [PV.int IntKind.i64 0,PV.int IntKind.i64 0,PV.int IntKind.i64 0])∧buildable Tryz.prog 69=true∧Qat Tryz.prog 69 0=some (0,3,1)∧Qad Tryz.prog 69 0=some (0,1)∧Qat Tryz.prog 69 1=some (1,3,1)∧Qad Tryz.prog 69 1=some (1,1)∧Qat Tryz.prog 69 2=some (2,3,1)∧Qad Tryz.prog 69 2=some (2,1)∧Qci Tryz.prog 69=some [1,1,1]:=by repeat' (first | kernel_rfl | constructor)
theorem Tc4:tyOk Tryz.prog 71=true∧Qbb Tryz.prog 71=true∧(Tryz.prog.info? 71).isSome=true∧Qap Tryz.prog 71=some (11,88)∧Tryz.prog.cellsOf 71=11∧Qar Tryz.prog 71=some (PV.agg [PV.int IntKind.i64 0,PV.int IntKind.i64 0,PV.int IntKind.i64 0,PV.int IntKind.i64 0,PV.int IntKind.i64 0,PV.int IntKind.i64 0,PV.int IntKind.i64 0,PV.int IntKind.i64 0,PV.int IntKind.i64 0,PV.int IntKind.i64 0,PV.int IntKind.i64 0])∧buildable Tryz.prog 71=true∧Qat Tryz.prog 71 0=some (0,69,3)∧Qad Tryz.prog 71 0=some (0,3)∧Qat Tryz.prog 71 1=some (3,69,3)∧Qad Tryz.prog 71 1=some (3,3)∧Qat Tryz.prog 71 2=some (6,3,1)∧Qad Tryz.prog 71 2=some (6,1)∧Qat Tryz.prog 71 3=some (7,3,1)∧Qad Tryz.prog 71 3=some (7,1)∧Qat Tryz.prog 71 4=some (8,69,3)∧Qad Tryz.prog 71 4=some (8,3)∧Qci Tryz.prog 71=some [1,1,1,1,1,1,1,1,1,1,1]∧tyOk Tryz.prog 74=true∧Qbb Tryz.prog 74=false∧(Tryz.prog.info? 74).isSome=true∧Qap Tryz.prog 74=some (1,8)∧Tryz.prog.cellsOf 74=1∧Qar Tryz.prog 74=some PV.nilF∧tyOk Tryz.prog 81=true∧Qbb Tryz.prog 81=false∧(Tryz.prog.info? 81).isSome=true∧Qap Tryz.prog 81=some (1,8)∧Tryz.prog.cellsOf 81=1∧Qar Tryz.prog 81=some (PV.int IntKind.u64 0)∧Tryz.prog.underlying 81=some (.int .u64)∧tyOk Tryz.prog 82=true∧Qbb Tryz.prog 82=false∧(Tryz.prog.info? 82).isSome=true∧Qap Tryz.prog 82=some (1,8)∧Tryz.prog.cellsOf 82=1∧Qar Tryz.prog 82=some (PV.int IntKind.u64 0)∧Tryz.prog.underlying 82=some (.int .u64)∧tyOk Tryz.prog 88=true∧Qbb Tryz.prog 88=true:=by repeat' (first | kernel_rfl | constructor)
theorem Qji:Tryz.prog.underlying 90=some (.slice 94):=by kernel_rfl
theorem Zjl (es:List PV):Qa9 Tryz.prog 90 (.slc es)=some (.int .i64 es.length):=by simp only [Qa9,Qji]
theorem Zjm:Qa9 Tryz.prog 90 .nilS=some (.int .i64 0):=by simp only [Qa9,Qji]
theorem Zjn (b e o n:Nat):Qa9 Tryz.prog 90 (.bs b e o n)=some (.int .i64 n):=by simp only [Qa9,Qji]
theorem Tc5:(Tryz.prog.info? 88).isSome=true∧Qap Tryz.prog 88=some (3,24)∧Tryz.prog.cellsOf 88=3∧Qar Tryz.prog 88=some (PV.agg [PV.int IntKind.i64 0,PV.int IntKind.i64 0,PV.int IntKind.i64 0])∧Qf5 Tryz.prog 88=some (3,3)∧buildable Tryz.prog 88=true∧Qad Tryz.prog 88 0=some (0,1)∧Qad Tryz.prog 88 1=some (1,1)∧Qad Tryz.prog 88 2=some (2,1)∧Qad Tryz.prog 88 3=some (3,1)∧Qad Tryz.prog 88 4=some (4,1)∧Qad Tryz.prog 88 5=some (5,1)∧Qad Tryz.prog 88 6=some (6,1)∧Qad Tryz.prog 88 7=some (7,1)∧Qad Tryz.prog 88 8=some (8,1)∧Qad Tryz.prog 88 9=some (9,1)∧Qad Tryz.prog 88 10=some (10,1)∧Qad Tryz.prog 88 11=some (11,1)∧Qad Tryz.prog 88 12=some (12,1)∧Qad Tryz.prog 88 13=some (13,1)∧Qad Tryz.prog 88 14=some (14,1)∧Qad Tryz.prog 88 15=some (15,1)∧Qad Tryz.prog 88 16=some (16,1)∧Qad Tryz.prog 88 17=some (17,1)∧Qad Tryz.prog 88 18=some (18,1)∧Qad Tryz.prog 88 19=some (19,1)∧tyOk Tryz.prog 90=true∧Qbb Tryz.prog 90=false∧(Tryz.prog.info? 90).isSome=true∧Qap Tryz.prog 90=some (1,24)∧Tryz.prog.cellsOf 90=1∧Qar Tryz.prog 90=some PV.nilS∧Qbz Tryz.prog 90=some 94∧tyOk Tryz.prog 94=true∧Qbb Tryz.prog 94=false∧(Tryz.prog.info? 94).isSome=true∧Qap Tryz.prog 94=some (1,24)∧Tryz.prog.cellsOf 94=1∧Qar Tryz.prog 94=some PV.nilS∧Qbz Tryz.prog 94=some 121:=by repeat' (first | kernel_rfl | constructor)
theorem Qjj:Tryz.prog.underlying 94=some (.slice 121):=by kernel_rfl
theorem Zjr (es:List PV):Qa9 Tryz.prog 94 (.slc es)=some (.int .i64 es.length):=by simp only [Qa9,Qjj]
theorem Zjs:Qa9 Tryz.prog 94 .nilS=some (.int .i64 0):=by simp only [Qa9,Qjj]
theorem Zjt (b e o n:Nat):Qa9 Tryz.prog 94 (.bs b e o n)=some (.int .i64 n):=by simp only [Qa9,Qjj]
theorem Tc6:tyOk Tryz.prog 104=true∧Qbb Tryz.prog 104=true∧(Tryz.prog.info? 104).isSome=true∧Qap Tryz.prog 104=some (6,48)∧Tryz.prog.cellsOf 104=6∧Qar Tryz.prog 104=some (PV.agg [PV.int IntKind.i64 0,PV.int IntKind.i64 0,PV.int IntKind.i64 0,PV.int IntKind.i64 0,PV.int IntKind.i64 0,PV.int IntKind.i64 0])∧buildable Tryz.prog 104=true∧Qat Tryz.prog 104 0=some (0,69,3)∧Qad Tryz.prog 104 0=some (0,3)∧Qat Tryz.prog 104 1=some (3,3,1)∧Qad Tryz.prog 104 1=some (3,1)∧Qat Tryz.prog 104 2=some (4,3,1)∧Qad Tryz.prog 104 2=some (4,1)∧Qat Tryz.prog 104 3=some (5,3,1)∧Qad Tryz.prog 104 3=some (5,1)∧Qci Tryz.prog 104=some [1,1,1,1,1,1]∧tyOk Tryz.prog 106=true∧Qbb Tryz.prog 106=false∧(Tryz.prog.info? 106).isSome=true∧Qap Tryz.prog 106=some (1,8)∧Tryz.prog.cellsOf 106=1∧Qar Tryz.prog 106=some PV.nilF∧tyOk Tryz.prog 107=true∧Qbb Tryz.prog 107=true∧(Tryz.prog.info? 107).isSome=true∧Qap Tryz.prog 107=some (4,96)∧Tryz.prog.cellsOf 107=4∧Qar Tryz.prog 107=some (PV.agg [PV.nilS,PV.nilS,PV.nilS,PV.nilS])∧Qf5 Tryz.prog 107=some (4,53)∧buildable Tryz.prog 107=true∧Qad Tryz.prog 107 0=some (0,1)∧Qad Tryz.prog 107 1=some (1,1)∧Qad Tryz.prog 107 2=some (2,1)∧Qad Tryz.prog 107 3=some (3,1)∧Qad Tryz.prog 107 4=some (4,1)∧Qad Tryz.prog 107 5=some (5,1)∧Qad Tryz.prog 107 6=some (6,1)∧Qad Tryz.prog 107 7=some (7,1)∧Qad Tryz.prog 107 8=some (8,1)∧Qad Tryz.prog 107 9=some (9,1):=by repeat' (first | kernel_rfl | constructor)
theorem Tc7:Qad Tryz.prog 107 10=some (10,1)∧Qad Tryz.prog 107 11=some (11,1)∧Qad Tryz.prog 107 12=some (12,1)∧Qad Tryz.prog 107 13=some (13,1)∧Qad Tryz.prog 107 14=some (14,1)∧Qad Tryz.prog 107 15=some (15,1)∧Qad Tryz.prog 107 16=some (16,1)∧Qad Tryz.prog 107 17=some (17,1)∧Qad Tryz.prog 107 18=some (18,1)∧Qad Tryz.prog 107 19=some (19,1)∧tyOk Tryz.prog 121=true∧Qbb Tryz.prog 121=true∧(Tryz.prog.info? 121).isSome=true∧Qap Tryz.prog 121=some (6,96)∧Tryz.prog.cellsOf 121=6∧Qar Tryz.prog 121=some (PV.agg [PV.int IntKind.i64 0,PV.int IntKind.i64 0,PV.int IntKind.i64 0,PV.nilS,PV.nilS,PV.nilS])∧buildable Tryz.prog 121=true∧Qat Tryz.prog 121 0=some (0,3,1)∧Qad Tryz.prog 121 0=some (0,1)∧Qat Tryz.prog 121 1=some (1,3,1)∧Qad Tryz.prog 121 1=some (1,1)∧Qat Tryz.prog 121 2=some (2,3,1)∧Qad Tryz.prog 121 2=some (2,1)∧Qat Tryz.prog 121 3=some (3,53,1)∧Qad Tryz.prog 121 3=some (3,1)∧Qat Tryz.prog 121 4=some (4,53,1)∧Qad Tryz.prog 121 4=some (4,1)∧Qat Tryz.prog 121 5=some (5,53,1)∧Qad Tryz.prog 121 5=some (5,1)∧tyOk Tryz.prog 126=true∧Qbb Tryz.prog 126=false∧(Tryz.prog.info? 126).isSome=true∧Qap Tryz.prog 126=some (1,8)∧Tryz.prog.cellsOf 126=1∧Qar Tryz.prog 126=some PV.nilM∧tyOk Tryz.prog 127=true∧Qbb Tryz.prog 127=false∧(Tryz.prog.info? 127).isSome=true∧Qap Tryz.prog 127=some (1,8)∧Tryz.prog.cellsOf 127=1:=by repeat' (first | kernel_rfl | constructor)
theorem Tc8:Qar Tryz.prog 127=some PV.nilM∧tyOk Tryz.prog 134=true∧Qbb Tryz.prog 134=true∧(Tryz.prog.info? 134).isSome=true∧Qap Tryz.prog 134=some (2,24)∧Tryz.prog.cellsOf 134=2∧Qar Tryz.prog 134=some (PV.agg [PV.bool Bool.false,PV.str {data:={toList:=[]}}])∧buildable Tryz.prog 134=true∧Qat Tryz.prog 134 0=some (0,4,1)∧Qad Tryz.prog 134 0=some (0,1)∧Qat Tryz.prog 134 1=some (1,9,1)∧Qad Tryz.prog 134 1=some (1,1)∧Qci Tryz.prog 134=some [0,2]∧tyOk Tryz.prog 136=true∧Qbb Tryz.prog 136=true∧(Tryz.prog.info? 136).isSome=true∧Qap Tryz.prog 136=some (8,96)∧Tryz.prog.cellsOf 136=8∧Qar Tryz.prog 136=some (PV.agg [PV.bool Bool.false,PV.str {data:={toList:=[]}},PV.bool Bool.false,PV.str {data:={toList:=[]}},PV.bool Bool.false,PV.str {data:={toList:=[]}},PV.bool Bool.false,PV.str {data:={toList:=[]}}])∧buildable Tryz.prog 136=true∧Qat Tryz.prog 136 0=some (0,134,2)∧Qad Tryz.prog 136 0=some (0,2)∧Qat Tryz.prog 136 1=some (2,134,2)∧Qad Tryz.prog 136 1=some (2,2)∧Qat Tryz.prog 136 2=some (4,134,2)∧Qad Tryz.prog 136 2=some (4,2)∧Qat Tryz.prog 136 3=some (6,134,2)∧Qad Tryz.prog 136 3=some (6,2)∧Qci Tryz.prog 136=some [0,2,0,2,0,2,0,2]∧tyOk Tryz.prog 139=true∧Qbb Tryz.prog 139=true∧(Tryz.prog.info? 139).isSome=true∧Qap Tryz.prog 139=some (6,72)∧Tryz.prog.cellsOf 139=6∧Qar Tryz.prog 139=some (PV.agg [PV.bool Bool.false,PV.str {data:={toList:=[]}},PV.bool Bool.false,PV.str {data:={toList:=[]}},PV.bool Bool.false,PV.str {data:={toList:=[]}}])∧Qf5 Tryz.prog 139=some (3,134)∧buildable Tryz.prog 139=true∧Qad Tryz.prog 139 0=some (0,2)∧Qad Tryz.prog 139 1=some (2,2)∧Qad Tryz.prog 139 2=some (4,2):=by repeat' (first | kernel_rfl | constructor)
theorem Tc9:Qad Tryz.prog 139 3=some (6,2)∧Qad Tryz.prog 139 4=some (8,2)∧Qad Tryz.prog 139 5=some (10,2)∧Qad Tryz.prog 139 6=some (12,2)∧Qad Tryz.prog 139 7=some (14,2)∧Qad Tryz.prog 139 8=some (16,2)∧Qad Tryz.prog 139 9=some (18,2)∧Qad Tryz.prog 139 10=some (20,2)∧Qad Tryz.prog 139 11=some (22,2)∧Qad Tryz.prog 139 12=some (24,2)∧Qad Tryz.prog 139 13=some (26,2)∧Qad Tryz.prog 139 14=some (28,2)∧Qad Tryz.prog 139 15=some (30,2)∧Qad Tryz.prog 139 16=some (32,2)∧Qad Tryz.prog 139 17=some (34,2)∧Qad Tryz.prog 139 18=some (36,2)∧Qad Tryz.prog 139 19=some (38,2)∧tyOk Tryz.prog 143=true∧Qbb Tryz.prog 143=false∧(Tryz.prog.info? 143).isSome=true∧Qap Tryz.prog 143=some (1,8)∧Tryz.prog.cellsOf 143=1∧Qar Tryz.prog 143=some (PV.int IntKind.i64 0)∧Tryz.prog.underlying 143=some (.int .i64)∧tyOk Tryz.prog 152=true∧Qbb Tryz.prog 152=false∧(Tryz.prog.info? 152).isSome=true∧Qap Tryz.prog 152=some (1,4)∧Tryz.prog.cellsOf 152=1∧Qar Tryz.prog 152=some (PV.int IntKind.u32 0)∧Tryz.prog.underlying 152=some (.int .u32)∧tyOk Tryz.prog 154=true∧Qbb Tryz.prog 154=false∧(Tryz.prog.info? 154).isSome=true∧Qap Tryz.prog 154=some (1,8)∧Tryz.prog.cellsOf 154=1∧Qar Tryz.prog 154=some (PV.int IntKind.u64 0)∧Tryz.prog.underlying 154=some (.int .u64)∧tyOk Tryz.prog 160=true∧Qbb Tryz.prog 160=true:=by repeat' (first | kernel_rfl | constructor)
theorem Qhr:Tryz.prog.underlying 169=some (.slice 154):=by kernel_rfl
theorem Zas (es:List PV):Qa9 Tryz.prog 169 (.slc es)=some (.int .i64 es.length):=by simp only [Qa9,Qhr]
theorem Zat:Qa9 Tryz.prog 169 .nilS=some (.int .i64 0):=by simp only [Qa9,Qhr]
theorem Zau (b e o n:Nat):Qa9 Tryz.prog 169 (.bs b e o n)=some (.int .i64 n):=by simp only [Qa9,Qhr]
theorem Tc10:(Tryz.prog.info? 160).isSome=true∧Qap Tryz.prog 160=some (3,72)∧Tryz.prog.cellsOf 160=3∧Qar Tryz.prog 160=some (PV.agg [PV.nilS,PV.nilS,PV.nilS])∧Qf5 Tryz.prog 160=some (3,53)∧buildable Tryz.prog 160=true∧Qad Tryz.prog 160 0=some (0,1)∧Qad Tryz.prog 160 1=some (1,1)∧Qad Tryz.prog 160 2=some (2,1)∧Qad Tryz.prog 160 3=some (3,1)∧Qad Tryz.prog 160 4=some (4,1)∧Qad Tryz.prog 160 5=some (5,1)∧Qad Tryz.prog 160 6=some (6,1)∧Qad Tryz.prog 160 7=some (7,1)∧Qad Tryz.prog 160 8=some (8,1)∧Qad Tryz.prog 160 9=some (9,1)∧Qad Tryz.prog 160 10=some (10,1)∧Qad Tryz.prog 160 11=some (11,1)∧Qad Tryz.prog 160 12=some (12,1)∧Qad Tryz.prog 160 13=some (13,1)∧Qad Tryz.prog 160 14=some (14,1)∧Qad Tryz.prog 160 15=some (15,1)∧Qad Tryz.prog 160 16=some (16,1)∧Qad Tryz.prog 160 17=some (17,1)∧Qad Tryz.prog 160 18=some (18,1)∧Qad Tryz.prog 160 19=some (19,1)∧tyOk Tryz.prog 169=true∧Qbb Tryz.prog 169=false∧(Tryz.prog.info? 169).isSome=true∧Qap Tryz.prog 169=some (1,24)∧Tryz.prog.cellsOf 169=1∧Qar Tryz.prog 169=some PV.nilS∧Qbz Tryz.prog 169=some 154∧tyOk Tryz.prog 171=true∧Qbb Tryz.prog 171=true∧(Tryz.prog.info? 171).isSome=true∧Qap Tryz.prog 171=some (2,32)∧Tryz.prog.cellsOf 171=2∧Qar Tryz.prog 171=some (PV.agg [PV.bool Bool.false,PV.nilS])∧buildable Tryz.prog 171=true:=by repeat' (first | kernel_rfl | constructor)
theorem Tc11:Qat Tryz.prog 171 0=some (0,4,1)∧Qad Tryz.prog 171 0=some (0,1)∧Qat Tryz.prog 171 1=some (1,169,1)∧Qad Tryz.prog 171 1=some (1,1)∧tyOk Tryz.prog 177=true∧Qbb Tryz.prog 177=false∧(Tryz.prog.info? 177).isSome=true∧Qap Tryz.prog 177=some (1,8)∧Tryz.prog.cellsOf 177=1∧Qar Tryz.prog 177=some (PV.int IntKind.u64 0)∧Tryz.prog.underlying 177=some (.int .u64)∧tyOk Tryz.prog 181=true∧Qbb Tryz.prog 181=false∧(Tryz.prog.info? 181).isSome=true∧Qap Tryz.prog 181=some (1,8)∧Tryz.prog.cellsOf 181=1∧tyOk Tryz.prog 184=true∧Qbb Tryz.prog 184=true∧(Tryz.prog.info? 184).isSome=true∧Qap Tryz.prog 184=some (64,64)∧Tryz.prog.cellsOf 184=64∧Qar Tryz.prog 184=some (PV.agg [PV.int IntKind.u8 0,PV.int IntKind.u8 0,PV.int IntKind.u8 0,PV.int IntKind.u8 0,PV.int IntKind.u8 0,PV.int IntKind.u8 0,PV.int IntKind.u8 0,PV.int IntKind.u8 0,PV.int IntKind.u8 0,PV.int IntKind.u8 0,PV.int IntKind.u8 0,PV.int IntKind.u8 0,PV.int IntKind.u8 0,PV.int IntKind.u8 0,PV.int IntKind.u8 0,PV.int IntKind.u8 0,PV.int IntKind.u8 0,PV.int IntKind.u8 0,PV.int IntKind.u8 0,PV.int IntKind.u8 0,PV.int IntKind.u8 0,PV.int IntKind.u8 0,PV.int IntKind.u8 0,PV.int IntKind.u8 0,PV.int IntKind.u8 0,PV.int IntKind.u8 0,PV.int IntKind.u8 0,PV.int IntKind.u8 0,PV.int IntKind.u8 0,PV.int IntKind.u8 0,PV.int IntKind.u8 0,PV.int IntKind.u8 0,PV.int IntKind.u8 0,PV.int IntKind.u8 0,PV.int IntKind.u8 0,PV.int IntKind.u8 0,PV.int IntKind.u8 0,PV.int IntKind.u8 0,PV.int IntKind.u8 0,PV.int IntKind.u8 0,PV.int IntKind.u8 0,PV.int IntKind.u8 0,PV.int IntKind.u8 0,PV.int IntKind.u8 0,PV.int IntKind.u8 0,PV.int IntKind.u8 0,PV.int IntKind.u8 0,PV.int IntKind.u8 0,PV.int IntKind.u8 0,PV.int IntKind.u8 0,PV.int IntKind.u8 0,PV.int IntKind.u8 0,PV.int IntKind.u8 0,PV.int IntKind.u8 0,PV.int IntKind.u8 0,PV.int IntKind.u8 0,PV.int IntKind.u8 0,PV.int IntKind.u8 0,PV.int IntKind.u8 0,PV.int IntKind.u8 0,PV.int IntKind.u8 0,PV.int IntKind.u8 0,PV.int IntKind.u8 0,PV.int IntKind.u8 0])∧Qf5 Tryz.prog 184=some (64,5)∧buildable Tryz.prog 184=true∧Qad Tryz.prog 184 0=some (0,1)∧Qad Tryz.prog 184 1=some (1,1)∧Qad Tryz.prog 184 2=some (2,1)∧Qad Tryz.prog 184 3=some (3,1)∧Qad Tryz.prog 184 4=some (4,1)∧Qad Tryz.prog 184 5=some (5,1)∧Qad Tryz.prog 184 6=some (6,1)∧Qad Tryz.prog 184 7=some (7,1)∧Qad Tryz.prog 184 8=some (8,1)∧Qad Tryz.prog 184 9=some (9,1)∧Qad Tryz.prog 184 10=some (10,1)∧Qad Tryz.prog 184 11=some (11,1)∧Qad Tryz.prog 184 12=some (12,1)∧Qad Tryz.prog 184 13=some (13,1)∧Qad Tryz.prog 184 14=some (14,1)∧Qad Tryz.prog 184 15=some (15,1):=by repeat' (first | kernel_rfl | constructor)
theorem Tc12:Qad Tryz.prog 184 16=some (16,1)∧Qad Tryz.prog 184 17=some (17,1)∧Qad Tryz.prog 184 18=some (18,1)∧Qad Tryz.prog 184 19=some (19,1)∧tyOk Tryz.prog 192=true∧Qbb Tryz.prog 192=true∧(Tryz.prog.info? 192).isSome=true∧Qap Tryz.prog 192=some (6,48)∧Tryz.prog.cellsOf 192=6∧Qar Tryz.prog 192=some (PV.agg [PV.int IntKind.i64 0,PV.int IntKind.i64 0,PV.int IntKind.i64 0,PV.int IntKind.i64 0,PV.int IntKind.i64 0,PV.int IntKind.i64 0])∧Qf5 Tryz.prog 192=some (6,3)∧buildable Tryz.prog 192=true∧Qad Tryz.prog 192 0=some (0,1)∧Qad Tryz.prog 192 1=some (1,1)∧Qad Tryz.prog 192 2=some (2,1)∧Qad Tryz.prog 192 3=some (3,1)∧Qad Tryz.prog 192 4=some (4,1)∧Qad Tryz.prog 192 5=some (5,1)∧Qad Tryz.prog 192 6=some (6,1)∧Qad Tryz.prog 192 7=some (7,1)∧Qad Tryz.prog 192 8=some (8,1)∧Qad Tryz.prog 192 9=some (9,1)∧Qad Tryz.prog 192 10=some (10,1)∧Qad Tryz.prog 192 11=some (11,1)∧Qad Tryz.prog 192 12=some (12,1)∧Qad Tryz.prog 192 13=some (13,1)∧Qad Tryz.prog 192 14=some (14,1)∧Qad Tryz.prog 192 15=some (15,1)∧Qad Tryz.prog 192 16=some (16,1)∧Qad Tryz.prog 192 17=some (17,1)∧Qad Tryz.prog 192 18=some (18,1)∧Qad Tryz.prog 192 19=some (19,1)∧tyOk Tryz.prog 193=true∧Qbb Tryz.prog 193=true∧(Tryz.prog.info? 193).isSome=true∧Qap Tryz.prog 193=some (36,288)∧Tryz.prog.cellsOf 193=36∧Qar Tryz.prog 193=some (PV.agg [PV.int IntKind.i64 0,PV.int IntKind.i64 0,PV.int IntKind.i64 0,PV.int IntKind.i64 0,PV.int IntKind.i64 0,PV.int IntKind.i64 0,PV.int IntKind.i64 0,PV.int IntKind.i64 0,PV.int IntKind.i64 0,PV.int IntKind.i64 0,PV.int IntKind.i64 0,PV.int IntKind.i64 0,PV.int IntKind.i64 0,PV.int IntKind.i64 0,PV.int IntKind.i64 0,PV.int IntKind.i64 0,PV.int IntKind.i64 0,PV.int IntKind.i64 0,PV.int IntKind.i64 0,PV.int IntKind.i64 0,PV.int IntKind.i64 0,PV.int IntKind.i64 0,PV.int IntKind.i64 0,PV.int IntKind.i64 0,PV.int IntKind.i64 0,PV.int IntKind.i64 0,PV.int IntKind.i64 0,PV.int IntKind.i64 0,PV.int IntKind.i64 0,PV.int IntKind.i64 0,PV.int IntKind.i64 0,PV.int IntKind.i64 0,PV.int IntKind.i64 0,PV.int IntKind.i64 0,PV.int IntKind.i64 0,PV.int IntKind.i64 0])∧Qf5 Tryz.prog 193=some (6,192)∧buildable Tryz.prog 193=true:=by repeat' (first | kernel_rfl | constructor)
theorem Tc13:Qad Tryz.prog 193 0=some (0,6)∧Qad Tryz.prog 193 1=some (6,6)∧Qad Tryz.prog 193 2=some (12,6)∧Qad Tryz.prog 193 3=some (18,6)∧Qad Tryz.prog 193 4=some (24,6)∧Qad Tryz.prog 193 5=some (30,6)∧Qad Tryz.prog 193 6=some (36,6)∧Qad Tryz.prog 193 7=some (42,6)∧Qad Tryz.prog 193 8=some (48,6)∧Qad Tryz.prog 193 9=some (54,6)∧Qad Tryz.prog 193 10=some (60,6)∧Qad Tryz.prog 193 11=some (66,6)∧Qad Tryz.prog 193 12=some (72,6)∧Qad Tryz.prog 193 13=some (78,6)∧Qad Tryz.prog 193 14=some (84,6)∧Qad Tryz.prog 193 15=some (90,6)∧Qad Tryz.prog 193 16=some (96,6)∧Qad Tryz.prog 193 17=some (102,6)∧Qad Tryz.prog 193 18=some (108,6)∧Qad Tryz.prog 193 19=some (114,6)∧tyOk Tryz.prog 206=true∧Qbb Tryz.prog 206=true∧(Tryz.prog.info? 206).isSome=true∧Qap Tryz.prog 206=some (4,48)∧Tryz.prog.cellsOf 206=4∧Qar Tryz.prog 206=some (PV.agg [PV.bool Bool.false,PV.str {data:={toList:=[]}},PV.bool Bool.false,PV.str {data:={toList:=[]}}])∧buildable Tryz.prog 206=true∧Qat Tryz.prog 206 0=some (0,134,2)∧Qad Tryz.prog 206 0=some (0,2)∧Qat Tryz.prog 206 1=some (2,134,2)∧Qad Tryz.prog 206 1=some (2,2)∧Qci Tryz.prog 206=some [0,2,0,2]∧tyOk Tryz.prog 211=true∧Qbb Tryz.prog 211=true∧(Tryz.prog.info? 211).isSome=true∧Qap Tryz.prog 211=some (2,32)∧Tryz.prog.cellsOf 211=2∧Qar Tryz.prog 211=some (PV.agg [PV.nilS,PV.int IntKind.i64 0])∧buildable Tryz.prog 211=true∧Qat Tryz.prog 211 0=some (0,53,1):=by repeat' (first | kernel_rfl | constructor)
theorem Tc14:Qad Tryz.prog 211 0=some (0,1)∧Qat Tryz.prog 211 1=some (1,3,1)∧Qad Tryz.prog 211 1=some (1,1)∧tyOk Tryz.prog 212=true∧Qbb Tryz.prog 212=true∧(Tryz.prog.info? 212).isSome=true∧Qap Tryz.prog 212=some (6,96)∧Tryz.prog.cellsOf 212=6∧Qar Tryz.prog 212=some (PV.agg [PV.nilS,PV.int IntKind.i64 0,PV.nilS,PV.int IntKind.i64 0,PV.nilS,PV.int IntKind.i64 0])∧Qf5 Tryz.prog 212=some (3,211)∧buildable Tryz.prog 212=true∧Qad Tryz.prog 212 0=some (0,2)∧Qad Tryz.prog 212 1=some (2,2)∧Qad Tryz.prog 212 2=some (4,2)∧Qad Tryz.prog 212 3=some (6,2)∧Qad Tryz.prog 212 4=some (8,2)∧Qad Tryz.prog 212 5=some (10,2)∧Qad Tryz.prog 212 6=some (12,2)∧Qad Tryz.prog 212 7=some (14,2)∧Qad Tryz.prog 212 8=some (16,2)∧Qad Tryz.prog 212 9=some (18,2)∧Qad Tryz.prog 212 10=some (20,2)∧Qad Tryz.prog 212 11=some (22,2)∧Qad Tryz.prog 212 12=some (24,2)∧Qad Tryz.prog 212 13=some (26,2)∧Qad Tryz.prog 212 14=some (28,2)∧Qad Tryz.prog 212 15=some (30,2)∧Qad Tryz.prog 212 16=some (32,2)∧Qad Tryz.prog 212 17=some (34,2)∧Qad Tryz.prog 212 18=some (36,2)∧Qad Tryz.prog 212 19=some (38,2)∧tyOk Tryz.prog 215=true∧Qbb Tryz.prog 215=false∧(Tryz.prog.info? 215).isSome=true∧Qap Tryz.prog 215=some (1,8)∧Tryz.prog.cellsOf 215=1∧Qar Tryz.prog 215=some (PV.int IntKind.i64 0)∧Tryz.prog.underlying 215=some (.int .i64)∧tyOk Tryz.prog 225=true∧Qbb Tryz.prog 225=true:=by repeat' (first | kernel_rfl | constructor)
theorem Qhs:Tryz.prog.underlying 229=some (.slice 206):=by kernel_rfl
theorem Zcn (es:List PV):Qa9 Tryz.prog 229 (.slc es)=some (.int .i64 es.length):=by simp only [Qa9,Qhs]
theorem Zco:Qa9 Tryz.prog 229 .nilS=some (.int .i64 0):=by simp only [Qa9,Qhs]
theorem Zcp (b e o n:Nat):Qa9 Tryz.prog 229 (.bs b e o n)=some (.int .i64 n):=by simp only [Qa9,Qhs]
theorem Qht:Tryz.prog.underlying 235=some (.slice 5):=by kernel_rfl
theorem Zct (es:List PV):Qa9 Tryz.prog 235 (.slc es)=some (.int .i64 es.length):=by simp only [Qa9,Qht]
theorem Zcu:Qa9 Tryz.prog 235 .nilS=some (.int .i64 0):=by simp only [Qa9,Qht]
theorem Zcv (b e o n:Nat):Qa9 Tryz.prog 235 (.bs b e o n)=some (.int .i64 n):=by simp only [Qa9,Qht]
theorem Tc15:(Tryz.prog.info? 225).isSome=true∧Qap Tryz.prog 225=some (4,48)∧Tryz.prog.cellsOf 225=4∧Qar Tryz.prog 225=some (PV.agg [PV.bool Bool.false,PV.str {data:={toList:=[]}},PV.bool Bool.false,PV.str {data:={toList:=[]}}])∧buildable Tryz.prog 225=true∧Qat Tryz.prog 225 0=some (0,134,2)∧Qad Tryz.prog 225 0=some (0,2)∧Qat Tryz.prog 225 1=some (2,134,2)∧Qad Tryz.prog 225 1=some (2,2)∧Qci Tryz.prog 225=some [0,2,0,2]∧tyOk Tryz.prog 229=true∧Qbb Tryz.prog 229=false∧(Tryz.prog.info? 229).isSome=true∧Qap Tryz.prog 229=some (1,24)∧Tryz.prog.cellsOf 229=1∧Qar Tryz.prog 229=some PV.nilS∧Qbz Tryz.prog 229=some 206∧tyOk Tryz.prog 235=true∧Qbb Tryz.prog 235=false∧(Tryz.prog.info? 235).isSome=true∧Qap Tryz.prog 235=some (1,24)∧Tryz.prog.cellsOf 235=1∧Qar Tryz.prog 235=some PV.nilS∧Qbz Tryz.prog 235=some 5∧tyOk Tryz.prog 247=true∧Qbb Tryz.prog 247=false∧(Tryz.prog.info? 247).isSome=true∧Qap Tryz.prog 247=some (1,8)∧Tryz.prog.cellsOf 247=1∧Qar Tryz.prog 247=some PV.nilM∧tyOk Tryz.prog 251=true∧Qbb Tryz.prog 251=false∧(Tryz.prog.info? 251).isSome=true∧Qap Tryz.prog 251=some (1,16)∧Tryz.prog.cellsOf 251=1∧Qar Tryz.prog 251=some PV.nilI:=by repeat' (first | kernel_rfl | constructor)
attribute [go_sem] Zqp Zts Qjb Zhh Zhi Zhj Qjc Zhn Zho Zhp Qjd Zht Zhu Zhv Qje Zh3 Zh4 Zh5 Qjf Zif Zig Zih Qjg Zil Zim Zin Qjh Zir Zis Zit Qji Zjl Zjm Zjn Qjj Zjr Zjs Zjt Qhr Zas Zat Zau Qhs Zcn Zco
attribute [go_sem] Zcp Qht Zct Zcu Zcv Tc0 Tc1 Tc2 Tc3 Tc4 Tc5 Tc6 Tc7 Tc8 Tc9 Tc10 Tc11 Tc12 Tc13 Tc14 Tc15
end Go.Proofs.YtdpajapkhembcaaGreatDoor

namespace Go.Dg
def digs (B n:Nat):List Nat:=if h:n=0∨B<2 then []else n%B::digs B (n/B)
termination_by n
decreasing_by
 simp only [not_or,Nat.not_lt]at h;exact Nat.div_lt_self (Nat.pos_of_ne_zero h.1) h.2
def val (B:Nat):List Nat→Nat
 | []=>0
 |d::l=>d+B*val B l
section
variable {B:Nat}
theorem Qbi:digs B 0=[]:=by unfold digs;simp
theorem Qgs (hB:2≤B) {n:Nat} (hn:n≠0):digs B n=n%B::digs B (n/B):=by
 conv=>lhs;unfold digs
 rw [dif_neg];simp only [not_or,Nat.not_lt];exact⟨hn,hB⟩
theorem Qyi (hB:2≤B) (n:Nat):val B (digs B n)=n:=by
 induction n using Nat.strongRecOn with
 |_ n ih=>
  by_cases hn:n=0
  ·subst hn;rw [Qbi];rfl
  ·rw [Qgs hB hn];simp only [val];rw [ih _ (Nat.div_lt_self (Nat.pos_of_ne_zero hn) hB)];exact Nat.mod_add_div n B
theorem Qqt (hB:2≤B) (n k:Nat):(digs B n)[k]? =if n/B^k=0 then none else some (n/B^k%B):=by
 induction k generalizing n with
 |zero=>
  by_cases hn:n=0
  ·subst hn;simp [Qbi]
  ·rw [Qgs hB hn];simp [hn]
 |succ k ih=>
  by_cases hn:n=0
  ·subst hn;simp [Qbi]
  ·rw [Qgs hB hn,List.getElem?_cons_succ,ih];have:n/B/B^k=n/B^(k+1):=by rw [Nat.div_div_eq_div_mul,Nat.pow_succ,Nat.mul_comm]
   rw [this]
theorem Qde (hB:2≤B) (n k:Nat):k<(digs B n).length↔n/B^k≠0:=by
 have:=Qqt hB n k;constructor
 ·intro h hz;rw [if_pos hz,List.getElem?_eq_none_iff]at this;omega
 ·intro h;rw [if_neg h]at this;exact(List.getElem?_eq_some_iff.1 this).1
theorem Qas (hB:2≤B) (n k:Nat):(digs B n).length≤k↔n<B^k:=by
 have h:=Qde hB n k;have hp:0<B^k:=Nat.pow_pos (by omega);rw [←Nat.not_lt,h,Decidable.not_not,Nat.div_eq_zero_iff];omega
theorem Qa6 (hB:2≤B) (n:Nat):n<B^(digs B n).length:=(Qas hB n _).1 (Nat.le_refl _)
theorem Qa0 (hB:2≤B) {n k:Nat} (h:k<(digs B n).length):(digs B n)[k]? =some (n/B^k%B):=by
 rw [Qqt hB,if_neg ((Qde hB n k).1 h)]
theorem Qvm (hB:2≤B) {n d:Nat} (h:d∈digs B n):d<B:=by
 obtain⟨k,hk⟩:=List.mem_iff_getElem?.1 h;rw [Qqt hB]at hk;split at hk
 ·cases hk
 ·cases hk;exact Nat.mod_lt _ (by omega)
theorem Qcu (hB:2≤B) {n k:Nat} (h:(digs B n).length≤k):n/B^k=0:=by
 have:=(Qas hB n k).1 h;exact Nat.div_eq_of_lt this
theorem Qbs (hB:2≤B) {n:Nat}:digs B n=[]↔n=0:=by
 constructor
 ·intro h;have:=Qyi hB n;rw [h]at this;exact this.symm
 ·rintro rfl;exact Qbi
def lows (B n i:Nat):List Nat:=(List.range i).map fun k=>n/B^k%B
theorem Qal (n i:Nat):(lows B n i).length=i:=by simp [lows]
theorem Qb5 (n i k:Nat) (h:k<i):(lows B n i)[k]? =some (n/B^k%B):=by simp [lows,h]
theorem Qsy (n i:Nat):lows B n (i+1)=n%B::lows B (n/B) i:=by
 simp only [lows,List.range_succ_eq_map,List.map_cons,Nat.pow_zero,Nat.div_one,List.map_map];congr 1;apply List.map_congr_left;intro k _;simp only [Function.comp,Nat.succ_eq_add_one];rw [Nat.div_div_eq_div_mul,Nat.pow_succ,Nat.mul_comm]
theorem Zfc (hB:0<B) (n i:Nat):val B (lows B n i)=n%B^i:=by
 induction i generalizing n with
 |zero=>simp [lows,val,Nat.mod_one]
 |succ i ih=>
  rw [Qsy];simp only [val];rw [ih,Nat.pow_succ,Nat.mul_comm (B^i) B,Nat.mod_mul]
theorem Qiv (hB:2≤B) (n:Nat):lows B n (digs B n).length=digs B n:=by
 apply List.ext_getElem?;intro k;by_cases hk:k<(digs B n).length
 ·rw [Qb5 _ _ _ hk,Qa0 hB hk]
 ·rw [List.getElem?_eq_none (by rw [Qal];omega),List.getElem?_eq_none (by omega)]
def Qgm (l:List Nat):List Nat:=(l.reverse.dropWhile (· ==0)).reverse
theorem Qeq (l:List Nat):Qgm (l++[0])=Qgm l:=by simp [Qgm]
theorem Qj9 (l:List Nat) {d:Nat} (h:d≠0):Qgm (l++[d])=l++[d]:=by simp [Qgm,h]
theorem Q43:Qgm []=[]:=rfl
theorem Qpl (l m:List Nat):val B (l++m)=val B l+B^l.length*val B m:=by
 induction l with
 |nil=>simp [val]
 |cons d l ih=>
  simp only [List.cons_append,val,ih,List.length_cons,Nat.pow_succ];rw [Nat.mul_add,Nat.add_assoc,←Nat.mul_assoc,Nat.mul_comm B (B^l.length)]
theorem Zyi (hB:0<B) {l:List Nat} (h: ∀d∈l,d<B):val B l<B^l.length:=by
 induction l with
 |nil=>simp [val]
 |cons d l ih=>
  have h1:=ih fun x hx=>h x (by simp [hx]);have h2:=h d (by simp);simp only [val,List.length_cons,Nat.pow_succ];have:B*val B l+B≤B*B^l.length:=by rw [←Nat.mul_succ];exact Nat.mul_le_mul_left _ h1
  rw [Nat.mul_comm (B^l.length)];omega
theorem Zfd (hB:2≤B) {l:List Nat} (h: ∀d∈l,d<B):lows B (val B l) l.length=l:=by
 induction l with
 |nil=>rfl
 |cons d l ih=>
  have h2:=h d (by simp);rw [List.length_cons,Qsy];simp only [val];rw [Nat.add_mul_mod_self_left,Nat.mod_eq_of_lt h2,Nat.add_mul_div_left _ _ (by omega),Nat.div_eq_of_lt h2,Nat.zero_add,ih fun x hx=>h x (by simp [hx])]
theorem Qyj (hB:2≤B) (l:List Nat) (h: ∀d∈l,d<B):Qgm l=digs B (val B l):=by
 have key: ∀n,∀l:List Nat,l.length=n→(∀d∈l,d<B)→Qgm l=digs B (val B l):=by
  intro n
  induction n with
  |zero=>intro l hl _;rw [List.length_eq_zero_iff.1 hl];simp [Q43,val,Qbi]
  |succ n ih=>
   intro l hl h;have hne:l≠ []:=by rintro rfl;simp at hl
   have hcut:=List.dropLast_concat_getLast hne;generalize l.dropLast=m at hcut;generalize l.getLast hne=d at hcut;subst hcut;have hm:m.length=n:=by simpa using hl
   have hmd: ∀x∈m,x<B:=fun x hx=>h x (by simp [hx]);by_cases hd:d=0
   ·subst hd;rw [Qeq,ih m hm hmd,Qpl];simp [val]
   ·rw [Qj9 m hd];have hlen:(digs B (val B (m++[d]))).length=(m++[d]).length:=by
     apply Nat.le_antisymm
     ·exact(Qas hB _ _).2 (Zyi (by omega) h)
     ·have:(m++[d]).length=m.length+1:=by simp
      rw [this];apply (Qde hB _ _).2;rw [Qpl];simp only [val,Nat.mul_zero,Nat.add_zero];rw [Nat.add_mul_div_left _ _ (Nat.pow_pos (by omega))];exact fun e=>hd (Nat.eq_zero_of_add_eq_zero_left e)
    have:=Qiv hB (val B (m++[d]));rw [hlen,Zfd hB h]at this;exact this
 exact key l.length l rfl h
theorem Qcg (hB:2≤B) (n i:Nat):Qgm (lows B n i)=digs B (n%B^i):=by
 rw [Qyj hB,Zfc (by omega)];intro d hd;simp only [lows,List.mem_map]at hd;obtain⟨k,_,rfl⟩:=hd;exact Nat.mod_lt _ (by omega)
end
end Go.Dg

namespace Go.Proofs.YtdpajapkhembcaaGreatDoor
open Go.Vl Go.RowKit Go.Dg
theorem wrapn {n:Nat} (h:n<9223372036854775808):IntKind.i64.wrap (n:Int)=n:=Qag (by omega) (by omega)
theorem Qi5 {n:Nat} (h:n<9223372036854775808):IntKind.i64.wrap (((n+1:Nat):Int)-1)=(n:Int):=by
 rw [Qag (by omega) (by omega)];omega
theorem Qnb:maxLen<9223372036854775808:=by simp [maxLen]
end Go.Proofs.YtdpajapkhembcaaGreatDoor

namespace Go.Dg
section
variable {B:Nat}
def carry (B a b i:Nat):Nat:=(a%B^i+b%B^i)/B^i
theorem Qpn (a b:Nat):carry B a b 0=0:=by simp [carry,Nat.mod_one]
theorem Qyo (hB:0<B) (a b i:Nat):carry B a b i≤1:=by
 have hp:0<B^i:=Nat.pow_pos hB;have h1:=Nat.mod_lt a hp;have h2:=Nat.mod_lt b hp;unfold carry;rw [Nat.div_le_iff_le_mul hp];omega
theorem Qyp (hB:0<B) (a b i:Nat):(a/B^i%B+b/B^i%B+carry B a b i)%B=(a+b)/B^i%B∧(a/B^i%B+b/B^i%B+carry B a b i)/B=carry B a b (i+1):=by
 have hp:0<B^i:=Nat.pow_pos hB;unfold carry;generalize hP:B^i=P at*;have e1:(a+b)/P=a/P+b/P+(a%P+b%P)/P:=by
  conv=>lhs;rw [←Nat.div_add_mod a P,←Nat.div_add_mod b P]
  have:P*(a/P)+a%P+(P*(b/P)+b%P)=(a%P+b%P)+P*(a/P+b/P):=by rw [Nat.mul_add];omega
  rw [this,Nat.add_mul_div_left _ _ hp];omega
 constructor
 ·rw [e1]
  conv=>rhs;rw [Nat.add_mod,Nat.add_mod (a/P)]
  conv=>lhs;rw [Nat.add_mod,Nat.add_mod (a/P%B)]
  simp
 ·have hP1:B^(i+1)=P*B:=by rw [Nat.pow_succ,hP]
  rw [hP1,Nat.mod_mul,Nat.mod_mul];have:a%P+P*(a/P%B)+(b%P+P*(b/P%B))=(a%P+b%P)+P*(a/P%B+b/P%B):=by rw [Nat.mul_add];omega
  rw [this,←Nat.div_div_eq_div_mul,Nat.add_mul_div_left _ _ hp];congr 1;omega
theorem Q5j (hB:2≤B) {n i:Nat} (h1:n<B^i) (h2: ∀j,j<i→n/B^j≠0):lows B n i=digs B n:=by
 have hl:(digs B n).length=i:=by
  apply Nat.le_antisymm ((Qas hB n i).2 h1);rcases Nat.eq_zero_or_pos i with rfl|hi
  ·exact Nat.zero_le _
  ·have:=(Qde hB n (i-1)).2 (h2 (i-1) (by omega));omega
 rw [←hl,Qiv hB]
end
end Go.Dg

namespace Go.Proofs.YtdpajapkhembcaaGreatDoor
open Go.Vl Go.RowKit Go.Dg
theorem Qhm {a b:Nat} (h:a+b<9223372036854775808):IntKind.i64.wrap ((a:Int)+(b:Int))=((a+b:Nat):Int):=by
 rw [Qag (by omega) (by omega)];omega
theorem Qak {a:Nat} (h:a+1<9223372036854775808):IntKind.i64.wrap ((a:Int)+1)=((a+1:Nat):Int):=by
 rw [Qag (by omega) (by omega)];omega
end Go.Proofs.YtdpajapkhembcaaGreatDoor

namespace Go.Dg
section
variable {B:Nat}
def cmpN (a b:Nat):Int:=if a<b then -1 else if b<a then 1 else 0
theorem Zrg {a b:Nat} (h:a<b):cmpN a b= -1:=by simp [cmpN,h]
theorem Zrh {a b:Nat} (h:b<a):cmpN a b=1:=by simp [cmpN,h];omega
theorem Zri (a:Nat):cmpN a a=0:=by simp [cmpN]
theorem Zp4 (hB:2≤B) {a b:Nat} (h:(digs B a).length<(digs B b).length):a<b:=by
 have h1:=Qa6 hB a;have h2:=(Qde hB b _).1 h;have h3:=Nat.div_eq_zero_iff (a:=b) (b:=B^(digs B a).length);have:0<B^(digs B a).length:=Nat.pow_pos (by omega);omega
theorem Qi0 (hB:0<B) (a i:Nat):a/B^i=B*(a/B^(i+1))+a/B^i%B:=by
 rw [Nat.pow_succ,←Nat.div_div_eq_div_mul];exact(Nat.div_add_mod _ _).symm
theorem Qs2 (hB:0<B) {a b i:Nat} (h:a/B^(i+1)=b/B^(i+1)) (hd:a/B^i%B<b/B^i%B):a<b:=by
 have h1:=Qi0 hB a i;have h2:=Qi0 hB b i;rw [h]at h1;apply Nat.lt_of_not_le;intro hle;have:=Nat.div_le_div_right (c:=B^i) hle;omega
theorem Q0w (hB:0<B) {a b i:Nat} (h:a/B^(i+1)=b/B^(i+1)) (hd:a/B^i%B=b/B^i%B):a/B^i=b/B^i:=by
 rw [Qi0 hB a i,Qi0 hB b i,h,hd]
def bor (B a b i:Nat):Nat:=if a%B^i<b%B^i then 1 else 0
theorem Qyk (a b:Nat):bor B a b 0=0:=by simp [bor,Nat.mod_one]
theorem Qyl (a b i:Nat):bor B a b i≤1:=by unfold bor;split<;>omega
theorem Q5h (hB:0<B) {a b:Nat} (h:b≤a) (i:Nat):(a-b)/B^i+b/B^i+bor B a b i=a/B^i:=by
 have hp:0<B^i:=Nat.pow_pos hB;unfold bor;generalize B^i=P at*;have ha:=Nat.div_add_mod a P;have hb:=Nat.div_add_mod b P;have hm1:=Nat.mod_lt a hp;have hm2:=Nat.mod_lt b hp;have hle:b/P≤a/P:=Nat.div_le_div_right h;generalize a/P=x at*;generalize b/P=y at*;generalize a%P=r at*;generalize b%P=s at*;obtain⟨z,rfl⟩:=Nat.exists_eq_add_of_le hle;rw [Nat.mul_add]at ha;split
 ·rename_i hlt;have hz:z≠0:=by rintro rfl;rw [Nat.mul_zero]at ha;omega
  obtain⟨z',rfl⟩:=Nat.exists_eq_succ_of_ne_zero hz;have e:a-b=(P+r-s)+P*z':=by rw [Nat.mul_succ]at ha;omega
  rw [e,Nat.add_mul_div_left _ _ hp,Nat.div_eq_of_lt (by omega)];omega
 ·rename_i hlt;have e:a-b=(r-s)+P*z:=by omega
  rw [e,Nat.add_mul_div_left _ _ hp,Nat.div_eq_of_lt (by omega)];omega
theorem Qym (hB:2≤B) {a b:Nat} (h:b≤a) (i:Nat):
  (a-b)/B^i%B+b/B^i%B+bor B a b i=a/B^i%B+B*bor B a b (i+1):=by
 have hB0:0<B:=by omega
 have h1:=Q5h hB0 h i;have h2:=Q5h hB0 h (i+1);have e1:=Qi0 hB0 (a-b) i;have e2:=Qi0 hB0 b i;have e3:=Qi0 hB0 a i;have hm:=Nat.mul_add B ((a-b)/B^(i+1)+b/B^(i+1)) (bor B a b (i+1));have hm2:=Nat.mul_add B ((a-b)/B^(i+1)) (b/B^(i+1));rw [h2]at hm;omega
def mix (B V S n m:Nat):List Nat:=(List.range n).map fun j=>if j<m then V/B^j%B else S/B^j%B
theorem Qbt (V S n m:Nat):(mix B V S n m).length=n:=by simp [mix]
theorem Qdv (V S n m j:Nat) (h:j<n):(mix B V S n m)[j]? =some (if j<m then V/B^j%B else S/B^j%B):=by simp [mix,h]
theorem Qm3 (hB:0<B) {V W m j:Nat} (h:V%B^m=W%B^m) (hj:j<m):V/B^j%B=W/B^j%B:=by
 have key: ∀n,n/B^j%B=(n%B^m)/B^j%B:=by
  intro n;have e:B^m=B^j*(B*B^(m-j-1)):=by
   rw [←Nat.mul_assoc,←Nat.pow_succ,←Nat.pow_add];congr 1;omega
  rw [e,Nat.mod_mul_right_div_self,Nat.mod_mul_right_mod]
 rw [key V,key W,h]
theorem Qer (hB:0<B) {V W S n m d:Nat} (hm:m<n) (h:V%B^m=W%B^m) (hd:W/B^m%B=d):(mix B V S n m).set m d=mix B W S n (m+1):=by
 apply List.ext_getElem?;intro j;rw [List.getElem?_set];by_cases hj:j<n
 ·rw [Qdv _ _ _ _ _ hj,Qdv _ _ _ _ _ hj,Qbt];by_cases e:m=j
  ·subst e;simp [hj,hd]
  ·simp only [e,if_false];by_cases hlt:j<m
   ·rw [if_pos hlt,if_pos (by omega),Qm3 hB h hlt]
   ·rw [if_neg hlt,if_neg (by omega)]
 ·rw [List.getElem?_eq_none (by rw [Qbt];omega),List.getElem?_eq_none (by rw [Qbt];omega),Qbt];simp;omega
theorem Qgt {V S n m:Nat} (hB:0<B) (h:V/B^m=S/B^m):mix B V S n m=lows B V n:=by
 apply List.map_congr_left;intro j _;split
 ·rfl
 ·rename_i hj;obtain⟨k,rfl⟩:=Nat.exists_eq_add_of_le (Nat.le_of_not_lt hj);rw [Nat.pow_add,←Nat.div_div_eq_div_mul,←Nat.div_div_eq_div_mul,h]
theorem Ql2 (V S n:Nat):mix B V S n 0=lows B S n:=by simp [mix,lows]
def mulV (B S x i b k:Nat):Nat:=S+x*B^i*(b%B^k)
theorem Qs3 (S x i b:Nat):mulV B S x i b 0=S:=by simp [mulV,Nat.mod_one]
theorem Qs4 (S x i b k:Nat):mulV B S x i b (k+1)=mulV B S x i b k+x*(b/B^k%B)*B^(i+k):=by
 unfold mulV;rw [Nat.pow_succ,Nat.mod_mul,Nat.mul_add,Nat.pow_add];have:x*B^i*(B^k*(b/B^k%B))=x*(b/B^k%B)*(B^i*B^k):=by
  simp only [Nat.mul_assoc,Nat.mul_comm,Nat.mul_left_comm]
 rw [this];omega
def mulC (B S x i b k:Nat):Nat:=mulV B S x i b k/B^(i+k)-S/B^(i+k)
theorem Zrj (S x i b k:Nat):S≤mulV B S x i b k:=Nat.le_add_right _ _
theorem Qq3 (S x i b k:Nat):mulC B S x i b k+S/B^(i+k)=mulV B S x i b k/B^(i+k):=by
 have:=Nat.div_le_div_right (c:=B^(i+k)) (Zrj (B:=B) S x i b k);unfold mulC;omega
theorem Qs5 (S x i b:Nat):mulC B S x i b 0=0:=by simp [mulC,Qs3]
theorem Qyn (hB:0<B) (S x i b k:Nat):
  (S/B^(i+k)%B+mulC B S x i b k+x*(b/B^k%B))%B=mulV B S x i b (k+1)/B^(i+k)%B∧
  (S/B^(i+k)%B+mulC B S x i b k+x*(b/B^k%B))/B=mulC B S x i b (k+1):=by
 have hp:0<B^(i+k):=Nat.pow_pos hB;have h1:=Qq3 (B:=B) S x i b k;have e1:mulV B S x i b (k+1)/B^(i+k)=(S/B^(i+k)%B+mulC B S x i b k+x*(b/B^k%B))+B*(S/B^(i+k+1)):=by
  rw [Qs4,Nat.add_mul_div_right _ _ hp,←h1];have:=Qi0 hB S (i+k);omega
 constructor
 ·rw [e1,Nat.add_mul_mod_self_left]
 ·have h2:=Qq3 (B:=B) S x i b (k+1);have e2:mulV B S x i b (k+1)/B^(i+(k+1))=mulV B S x i b (k+1)/B^(i+k)/B:=by
   rw [Nat.div_div_eq_div_mul,←Nat.pow_succ];rfl
  rw [e1,Nat.add_mul_div_left _ _ hB]at e2;have e3:S/B^(i+(k+1))=S/B^(i+k+1):=rfl;omega
theorem Zff (S x i b k:Nat):mulV B S x i b k%B^(i+k)=mulV B S x i b (k+1)%B^(i+k):=by
 rw [Qs4,Nat.add_mul_mod_self_right]
theorem Q5i (a i b k:Nat) (hk:b<B^k):mulV B (a%B^i*b) (a/B^i%B) i b k=a%B^(i+1)*b:=by
 unfold mulV;rw [Nat.mod_eq_of_lt hk,Nat.pow_succ,Nat.mod_mul,Nat.add_mul];congr 1;rw [Nat.mul_comm (a/B^i%B)]
theorem Zrk (hB:0<B) {S x i b k:Nat} (hx:x<B):mulC B S x i b k<B:=by
 induction k with
 |zero=>rw [Qs5];exact hB
 |succ k ih=>
  rw [←(Qyn hB S x i b k).2,Nat.div_lt_iff_lt_mul hB];have h1:S/B^(i+k)%B<B:=Nat.mod_lt _ hB;have h2:b/B^k%B<B:=Nat.mod_lt _ hB;have h3:x*(b/B^k%B)≤(B-1)*(B-1):=Nat.mul_le_mul (by omega) (by omega);have h4:B*B=(B-1)*(B-1)+2*(B-1)+1:=by
   obtain⟨c,rfl⟩: ∃c,B=c+1:=⟨B-1,by omega⟩;simp only [Nat.add_sub_cancel,Nat.add_mul,Nat.mul_add];omega
  omega
end
end Go.Dg

namespace Go.Proofs.YtdpajapkhembcaaGreatDoor
open Go.Vl Go.RowKit Go.Dg
end Go.Proofs.YtdpajapkhembcaaGreatDoor

namespace Go.Vl
open Go.RowKit
theorem Z2u (P:Program) (t:TypeId) (xs ys:List PV):Qb7 .eql t P (.agg xs) (.agg ys)=match Qci P t with
  |some sh=>match Qav sh xs ys with
   |some b=>some (.bool b)
   |none=>none
  |none=>none:=by
 unfold Qb7;cases Qci P t with
 |none=>rfl
 |some sh=>simp only;cases Qav sh xs ys<;>rfl
theorem Z2v (P:Program) (t:TypeId) (xs ys:List PV):Qb7 .neq t P (.agg xs) (.agg ys)=match Qci P t with
  |some sh=>match Qav sh xs ys with
   |some b=>some (.bool !b)
   |none=>none
  |none=>none:=by
 unfold Qb7;cases Qci P t with
 |none=>rfl
 |some sh=>simp only;cases Qav sh xs ys<;>rfl
attribute [go_sem] Z2u Z2v
end Go.Vl

namespace Go.Proofs.YtdpajapkhembcaaGreatDoor
open Go.Vl Go.RowKit Go.Dg
end Go.Proofs.YtdpajapkhembcaaGreatDoor

namespace Go.Vl
open Go.RowKit
theorem Zq4 (P:Program) (p:Nat×List (Nat×Nat)×List (Nat×Nat)) (tb:Tab) (id:Nat) (bx:Bx) (fo:Operand) (as0:Array Operand) (ts:Array TypeId) (f:FuncId) (first cap args:List PV):Qa3 P (p::tb) id (.call ⟨.value fo,as0,ts⟩) (.fn f first cap::args) bx=
  (match lkp (p::tb) id with
   |none=>M.bind (Qfn first) (fun x=> .bind (Qg1 args) fun y=> .bind (Qfn cap) fun z=> .pure (.call f (x.1++y.1++z.1) (x.2++y.2++z.2))) bx
   |some t=>Qd2 t.1 t.2 f (first++args++cap) bx):=by
 cases h:lkp (p::tb) id with
 |none=>rw [Zqz (h:=h)]
 |some t=>obtain⟨θ,ν⟩:=t;rw [Zq0 (h:=h)]
theorem ble6:Nat.ble 1000000 1000000=true:=rfl
theorem Z20:Nat.ble 1000000 1000001=true:=rfl
attribute [go_sem] Zq4 ble6 Z20
theorem Z21 (P:Program) (t:TypeId) (x y:ByteArray):Qb7 .eql t P (.str x) (.str y)=some (.bool (x.data.toList==y.data.toList)):=by
 rw [Zxk,←Go.ByteArray.toList_eq x,←Go.ByteArray.toList_eq y];rfl
theorem Z22 (P:Program) (t:TypeId) (x y:ByteArray):Qb7 .neq t P (.str x) (.str y)=some (.bool !(x.data.toList==y.data.toList)):=by
 rw [Zxk,←Go.ByteArray.toList_eq x,←Go.ByteArray.toList_eq y];rfl
attribute [go_sem high] Z21 Z22
def bnum (l:List UInt8):Nat:=l.foldl (fun n b=>n*256+b.toNat) 0
theorem Qmq (l:List UInt8) (b:UInt8):bnum (l++[b])=bnum l*256+b.toNat:=by simp [bnum]
theorem Qve: ∀(n:Nat) (l:List UInt8),l.length=n→bnum l<256^n
 |0,l,h=>by obtain rfl:=List.length_eq_zero_iff.1 h;simp [bnum]
 |n+1,l,h=>by
  have hne:l≠ []:=by intro e;rw [e]at h;simp at h
  have e:=List.dropLast_concat_getLast hne;have ih:=Qve n l.dropLast (by simp [h]);rw [←e,Qmq,Nat.pow_succ];have:=(l.getLast hne).toNat_lt;omega
theorem Qmr (s:ByteArray):s.size=s.data.toList.length:=rfl
theorem Qss (s:ByteArray) (k:Nat) (h:k<s.data.toList.length):s[k]? =some s.data.toList[k]:=by
 have h':k<s.size:=h;rw [getElem?_pos s k h'];rfl
end Go.Vl

namespace Go.Proofs.YtdpajapkhembcaaGreatDoor
open Go.Vl Go.RowKit Go.Dg
end Go.Proofs.YtdpajapkhembcaaGreatDoor

namespace Go.Dg
variable {B:Nat}
theorem Qyr {V S N i d:Nat} (hi:i<N) (hd:S/B^i%B=d):(mix B V S N (i+1)).set i d=mix B V S N i:=by
 apply List.ext_getElem?;intro j;rw [List.getElem?_set];by_cases hj:j<N
 ·rw [Qdv _ _ _ _ _ hj,Qdv _ _ _ _ _ hj,Qbt];by_cases e:i=j
  ·subst e;simp [hj,hd]
  ·simp only [e,if_false];by_cases hlt:j<i
   ·rw [if_pos (by omega),if_pos hlt]
   ·rw [if_neg (by omega),if_neg hlt]
 ·rw [List.getElem?_eq_none (by rw [Qbt];omega),List.getElem?_eq_none (by rw [Qbt];omega),Qbt];simp;omega
theorem Q55 (v N n:Nat) (h:n≤N):(lows B v N).take n=lows B v n:=by
 apply List.ext_getElem?;intro j;by_cases hj:j<n
 ·rw [List.getElem?_take_of_lt hj,Qb5 _ _ _ (by omega),Qb5 _ _ _ hj]
 ·rw [List.getElem?_eq_none (by rw [List.length_take,Qal];omega),List.getElem?_eq_none (by rw [Qal];omega)]
end Go.Dg

namespace Go.Proofs.YtdpajapkhembcaaGreatDoor
open Go.Vl Go.RowKit Go.Dg
abbrev f8:Nat→PV:=fun d:Nat=>PV.int .u8 (d:Int)
def magL (n:Nat):List UInt8:=(digs 256 n).reverse.map fun d=>UInt8.ofNat d
def wPV (n:Int):PV:= .agg [.bool (decide (n<0)),.str ⟨(magL n.natAbs).toArray⟩]
theorem Q04 (l:List Nat):Qeb (l.map f8)=some (l.map fun d=>UInt8.ofNat d):=by
 induction l with
 |nil=>rfl
 |cons d l ih=>simp only [List.map_cons,Qeb,ih];rfl
theorem Qgu {n:Nat} (h:n<256):IntKind.u8.wrap (n:Int)=(n:Int):=by
 simp [IntKind.wrap,IntKind.signed,IntKind.bits];omega
end Go.Proofs.YtdpajapkhembcaaGreatDoor

namespace Go.Dg
variable {B:Nat}

def blen (m:Nat):Nat:=if h:m=0 then 0 else blen (m/2)+1
termination_by m
decreasing_by exact Nat.div_lt_self (Nat.pos_of_ne_zero h) (by decide)
theorem Qgo:blen 0=0:=by unfold blen;simp
theorem Qgp {m:Nat} (h:m≠0):blen m=blen (m/2)+1:=by
  conv=>lhs;unfold blen
  simp [h]
theorem Qed: ∀(k m:Nat),m/2^k≠0→blen m=blen (m/2^k)+k
  |0,m,_=>by simp
  |k+1,m,h=>by
    have e:m/2^(k+1)=m/2/2^k:=by rw [Nat.div_div_eq_div_mul,Nat.pow_succ,Nat.mul_comm]
    have hm:m≠0:=by intro h0;rw [h0]at h;simp at h
    rw [Qgp hm,e,Qed k (m/2) (by rw [←e];exact h)];omega
theorem Qdl: ∀(k m:Nat),m<2^k→blen m≤k
  |0,m,h=>by
        obtain rfl:m=0:=by simpa using h
        rw [Qgo];exact Nat.le_refl _
  |k+1,m,h=>by
    by_cases h0:m=0
    · rw [h0,Qgo];omega
    · rw [Qgp h0];have:=Qdl k (m/2) (by rw [Nat.pow_succ]at h;omega);omega
theorem Qms: ∀(k m:Nat),2^k≤m→k<blen m
  |0,m,h=>by
    have h0:m≠0:=by intro e;rw [e]at h;simp at h
    rw [Qgp h0];omega
  |k+1,m,h=>by
    have h0:m≠0:=by intro e;rw [e]at h;have:=Nat.pow_pos (n:=k+1) (show 0<2 by decide);omega
    rw [Qgp h0];have:=Qms k (m/2) (by rw [Nat.pow_succ]at h;omega);omega
/-- The highest digit. -/
theorem Qd5 (hB:2≤B) {m:Nat} (h:m≠0):m/B^((digs B m).length-1)≠0∧m/B^((digs B m).length-1)<B:=by
  have hp:0<(digs B m).length:=List.length_pos_iff.2 (mt (Qbs hB).1 h);refine⟨(Qde hB m _).1 (by omega),?_⟩;have:=Qa6 hB m;have e:B^(digs B m).length=B^((digs B m).length-1)*B:=by rw [←Nat.pow_succ];congr 1;omega
  rw [e]at this;exact Nat.div_lt_of_lt_mul this
theorem Qya {m:Nat} (h:m≠0) (c:Nat) (hc:0<c):blen m=blen (m/(2^c)^((digs (2^c) m).length-1))+c*((digs (2^c) m).length-1):=by
  have hB:2≤2^c:=by
    have:=Nat.pow_le_pow_right (show 0<2 by decide) hc;simpa using this
  have:=Qd5 hB h;rw [←Nat.pow_mul]at this ⊢;exact Qed _ _ this.1
end Go.Dg

namespace Go.Proofs.YtdpajapkhembcaaGreatDoor
open Go.Vl Go.RowKit Go.Dg
theorem Qdw (m:Nat):(magL m).length=(digs 256 m).length:=by simp [magL]
theorem Qnc (m:Nat):(⟨(magL m).toArray⟩:ByteArray).size=(digs 256 m).length:=by rw [Qmr,←Qdw]
theorem Zfw {m:Nat} (h:m≠0): ∃d:UInt8,(⟨(magL m).toArray⟩:ByteArray)[0]? =some d∧d.toNat=m/256^((digs 256 m).length-1):=by
 have hp:0<(digs 256 m).length:=List.length_pos_iff.2 (mt (Qbs (by decide)).1 h);have ht:=Qd5 (B:=256) (by decide) h;have hg:=Qa0 (B:=256) (n:=m) (k:=(digs 256 m).length-1) (by decide) (by omega);rw [Nat.mod_eq_of_lt ht.2]at hg;have hl:0<(⟨(magL m).toArray⟩:ByteArray).data.toList.length:=by show 0<(magL m).length;rw [Qdw];exact hp
 refine⟨_,Qss _ 0 hl,?_⟩;have e:(⟨(magL m).toArray⟩:ByteArray).data.toList[0]=UInt8.ofNat (m/256^((digs 256 m).length-1)):=by
  show(magL m)[0]'(by rw [Qdw];exact hp)=_;have:(magL m)[0]? =some (UInt8.ofNat (m/256^((digs 256 m).length-1))):=by
   rw [magL,List.getElem?_map,List.getElem?_reverse (by omega),Nat.sub_zero,hg];rfl
  exact Option.some.inj (by rw [←this,List.getElem?_eq_getElem])
 rw [e,UInt8.toNat_ofNat_of_lt' ht.2]
def Qfc (n:Int):PV:=if 65536<blen n.natAbs then .tup [wPV 0,.int .i64 7]else .tup [wPV n,.int .i64 0]
theorem Qyu:wPV 0= .agg [.bool false,.str ⟨#[]⟩]:=by simp [wPV,magL,Qbi]
end Go.Proofs.YtdpajapkhembcaaGreatDoor

namespace Go.Vl
open Go.RowKit
theorem Qd1 (n:Nat):IntKind.u64.wrap (n:Int)=((n%18446744073709551616:Nat):Int):=by
 simp [IntKind.wrap,IntKind.signed,IntKind.bits]
theorem Qsr (n:Nat):(n:Int).fdiv (2^min 32 64)=((n/4294967296:Nat):Int):=by
 rw [Int.fdiv_eq_ediv_of_nonneg _ (by decide)];rfl
theorem Zx2 (n:Nat):IntKind.u64.wrap ((BitVec.ofInt 64 (n:Int) &&& BitVec.ofInt 64 4294967295).toNat:Int)=((n%4294967296:Nat):Int):=by
 rw [Qd1];congr 1;rw [BitVec.toNat_and];have h1:(BitVec.ofInt 64 (n:Int)).toNat=n%18446744073709551616:=by simp
 have h2:(BitVec.ofInt 64 4294967295).toNat=2^32-1:=by decide
 rw [h1,h2,Nat.and_two_pow_sub_one_eq_mod];omega
theorem Zpz {P:Program} {t:TypeId} (n:Nat):Qb7 .and t P (.int .u64 (n:Int)) (.int .u64 4294967295)=some (.int .u64 ((n%4294967296:Nat):Int)):=by
 rw [Z2h];exact congrArg (fun z=>some (PV.int .u64 z)) (Zx2 n)
attribute [go_sem high] Zpz
theorem Z2z {x y:Nat} (hx:x<18446744073709551616) (hy:y<18446744073709551616):
  ((x/4294967296*(y/4294967296)%18446744073709551616+(x/4294967296*(y%4294967296)%18446744073709551616+(x%4294967296*(y%4294967296)%18446744073709551616)/4294967296)%18446744073709551616/4294967296)%18446744073709551616+
   ((x/4294967296*(y%4294967296)%18446744073709551616+(x%4294967296*(y%4294967296)%18446744073709551616)/4294967296)%18446744073709551616%4294967296+x%4294967296*(y/4294967296)%18446744073709551616)%18446744073709551616/4294967296)%18446744073709551616=x*y/18446744073709551616:=by
 have a1:x/4294967296≤4294967295:=by omega
 have a0:x%4294967296≤4294967295:=by omega
 have b1:y/4294967296≤4294967295:=by omega
 have b0:y%4294967296≤4294967295:=by omega
 have ex:x=x/4294967296*4294967296+x%4294967296:=by omega
 have ey:y=y/4294967296*4294967296+y%4294967296:=by omega
 have hxy:x*y=x/4294967296*(y/4294967296)*18446744073709551616+(x/4294967296*(y%4294967296)+x%4294967296*(y/4294967296))*4294967296+x%4294967296*(y%4294967296):=by
  generalize x/4294967296=p at*;generalize x%4294967296=q at*;generalize y/4294967296=r at*;generalize y%4294967296=s at*;subst ex ey;simp only [Nat.add_mul,Nat.mul_add];rw [show p*4294967296*(r*4294967296)=p*r*18446744073709551616 by rw [Nat.mul_mul_mul_comm]];rw [show p*4294967296*s=p*s*4294967296 by rw [Nat.mul_right_comm],show q*(r*4294967296)=q*r*4294967296 by rw [Nat.mul_assoc]];omega
 have hlt:x*y≤18446744073709551615*18446744073709551615:=Nat.mul_le_mul (by omega) (by omega);have h11:=Nat.mul_le_mul a1 b1;have h10:=Nat.mul_le_mul a1 b0;have h01:=Nat.mul_le_mul a0 b1;have h00:=Nat.mul_le_mul a0 b0;rw [hxy]at hlt ⊢;generalize x/4294967296*(y/4294967296)=P at*;generalize x/4294967296*(y%4294967296)=Q at*;generalize x%4294967296*(y/4294967296)=R at*;generalize x%4294967296*(y%4294967296)=W at*;clear hxy ex ey a1 a0 b1 b0;omega
end Go.Vl

namespace Go.Proofs.YtdpajapkhembcaaGreatDoor
open Go.Vl Go.RowKit
theorem Qt0 {w:World} {im:Im} {k1 k2 k3:IntKind} {x y z:Int} {us:List Value} (h:RepL w im [.int k1 x,.int k2 y,.int k3 z] us):us=[.int k1 x,.int k2 y,.int k3 z]:=by
 cases h with
 |cons _ u _ us h t=>
 cases h;cases t with
 |cons _ u _ us h t=>
 cases h;cases t with
 |cons _ u _ us h t=>
 cases h;cases t;rfl
theorem Qrl (x y c:Nat) (hc:c≤1):Qaf Tryz.prog 161 [.int .u64 (x:Int),.int .u64 (y:Int),.int .u64 (c:Int)] (.tup [.int .u64 (((x+y+c)%18446744073709551616:Nat):Int),.int .u64 (((x+y+c)/18446744073709551616:Nat):Int)]):=by
 refine .inr ⟨by kernel_rfl,rfl,fun w im us hr=> ?_⟩;rw [Qt0 hr];refine⟨.tuple #[.int .u64 (((x+y+c)%18446744073709551616:Nat):Int),.int .u64 (((x+y+c)/18446744073709551616:Nat):Int)],?_,.tup _ [_,_] (.cons _ _ _ _ (.int _ _) (.cons _ _ _ _ (.int _ _) .nil))⟩;rw [run_callFunc_extern Tryz.func161 (by kernel_rfl) (by kernel_rfl) (by kernel_rfl) (e:=add64Entry) (by kernel_rfl),run_add64 x y c (by omega) (by omega) (by omega) (by omega)];simp only [Result.andThen];congr 5<;>omega
theorem Zc0 (x y b:Nat) (hb:b≤1):Qaf Tryz.prog 162 [.int .u64 (x:Int),.int .u64 (y:Int),.int .u64 (b:Int)] (.tup [.int .u64 (((x+18446744073709551616-y-b)%18446744073709551616:Nat):Int),.int .u64 ((if x<y+b then 1 else 0:Nat):Int)]):=by
 refine .inr ⟨by kernel_rfl,rfl,fun w im us hr=> ?_⟩;rw [Qt0 hr];refine⟨.tuple #[.int .u64 (((x+18446744073709551616-y-b)%18446744073709551616:Nat):Int),.int .u64 ((if x<y+b then 1 else 0:Nat):Int)],?_,.tup _ [_,_] (.cons _ _ _ _ (.int _ _) (.cons _ _ _ _ (.int _ _) .nil))⟩;rw [run_callFunc_extern Tryz.func162 (by kernel_rfl) (by kernel_rfl) (by kernel_rfl) (e:=sub64Entry) (by kernel_rfl),run_sub64 x y b hb];rfl
end Go.Proofs.YtdpajapkhembcaaGreatDoor

namespace Go.Proofs.YtdpajapkhembcaaGreatDoor
open Go.Vl Go.RowKit Go.Dg
abbrev BW:Nat:=18446744073709551616
theorem BW_2:2≤BW:=by decide
abbrev fW:Nat→PV:=fun d:Nat=>PV.int .u64 (d:Int)
def dw (l:List Nat):PV:= .slc (l.map fun d:Nat=>PV.int .u64 (d:Int))
theorem Qcr (l:List Nat) (k:Nat):(l.map fun d:Nat=>PV.int .u64 (d:Int))[k]? =l[k]?.map fun d:Nat=>PV.int .u64 (d:Int):=List.getElem?_map
theorem Zqu (l:List Nat):((l.map fun d:Nat=>PV.int .u64 (d:Int)).all fun x=>x.cells.length==1)=true:=by rw [List.all_map,List.all_eq_true];intro d _;rfl
theorem Qdn (l:List Nat) (hl:l.length≤maxLen):Qaf Tryz.prog 117 [dw l] (dw (Qgm l)):=by
 have hm:=Qnb;refine Qab (tb:=[]) 21 [.tmp 2] [0,2,14] mixed Tryz.func117 rfl (by kernel_rfl) ?_;simp only [go_sem,seval,dw];refine Qau mixed (fun k:{k:Nat // k≤l.length∧Qgm (l.take k)=Qgm l}=>St.of [(0,dw (l.take k.1)),(2,.nilS)] []) (fun k=>k.1) ⟨l.length,Nat.le_refl _,by rw [List.take_length]⟩ ?_ ?_
 ·exact Qax (by simp [Qae,lkp,ren1,ren0,dw])
 ·rintro⟨k,hk,ht⟩;have hlen:(l.take k).length=k:=by simp;omega
  cases k with
  |zero=>
   have h1:((0:Int)<((0:Nat):Int))=False:=by simp
   simp only [go_sem,seval,dw,h1];rw [←ht];rfl
  |succ k=>
   have h1:((0:Int)<((k+1:Nat):Int))=True:=by simp
   have h2:(0≤(k:Int))=True:=by simp
   have hw:=Qi5 (n:=k) (by omega);have hlt:k<l.length:=by omega
   have hget:(l.take (k+1))[k]? =some l[k]:=by simp [hlt]
   have hcut:l.take (k+1)=l.take k++[l[k]]:=by rw [List.take_add_one];simp [hlt]
   cases hd:((l[k]:Int)==0)with
   |true=>
    have hd0:l[k]=0:=by simpa using hd
    have h3:((k:Int)≤((k+1:Nat):Int))=True:=by simp;omega
    simp only [go_sem,seval,dw,List.length_map,hlen,h1,h2,hw,Qcr,hget,hd,h3,Int.toNat_natCast,Zqu];refine⟨⟨k,by omega,?_⟩,by simp,?_⟩
    ·rw [←ht,hcut,hd0,Qeq]
    ·refine Qax (by simp [Qae,lkp,ren1,ren0,dw];rw [←List.map_take];simp [List.take_take])
   |false=>
    have hd0:l[k]≠0:=by simpa using hd
    simp only [go_sem,seval,dw,List.length_map,hlen,h1,h2,hw,Qcr,hget,hd,Int.toNat_natCast];rw [←ht,hcut,Qj9 _ hd0]
def cmpW (a b:Nat):Int:=if(digs BW a).length=(digs BW b).length then cmpN a b else((digs BW a).length:Int)-((digs BW b).length:Int)
theorem Qee (a b:Nat):(cmpW a b<0)↔a<b:=by
 unfold cmpW;split
 ·unfold cmpN;split
  ·simp;assumption
  ·split<;>simp<;>omega
 ·rename_i h;constructor
  ·intro h2;exact Zp4 BW_2 (by omega)
  ·intro h2;rcases Nat.lt_trichotomy (digs BW a).length (digs BW b).length with h3|h3|h3
   ·omega
   ·exact absurd h3 h
   ·have:=Zp4 BW_2 h3;omega
theorem Qdy (a b:Nat) (ha:(digs BW a).length≤1000000000) (hb:(digs BW b).length≤1000000000):Qaf Tryz.prog 147 [dw (digs BW a),dw (digs BW b)] (.int .i64 (cmpW a b)):=by
 refine Qab (tb:=[]) 43 [.tmp 4] [0,1,4,5,10,20,23,33] mixed Tryz.func147 rfl (by kernel_rfl) ?_;by_cases hl:(digs BW a).length=(digs BW b).length
 ·have hl':(((digs BW a).length:Int) != ((digs BW b).length:Int))=false:=by simp [hl]
  have hw:IntKind.i64.wrap (((digs BW a).length:Int)-1)=((digs BW a).length:Int)-1:=Qag (by omega) (by omega);rw [cmpW,if_pos hl];simp only [go_sem,seval,dw,List.length_map,hl',hw];refine Qau mixed (fun i:{i:Nat // i≤(digs BW a).length∧a/BW^i=b/BW^i}=>St.of [(0,dw (digs BW a)),(1,dw (digs BW b)),(4,.int .i64 0),(5,.int .i64 ((i.1:Int)-1))] []) (fun i=>i.1)
   ⟨(digs BW a).length,Nat.le_refl _,by rw [Qcu BW_2 (Nat.le_refl _),hl,Qcu BW_2 (Nat.le_refl _)]⟩ ?_ ?_
  ·exact Qax (by simp [Qae,lkp,ren1,ren0,dw])
  ·rintro⟨i,hi,he⟩;cases i with
   |zero=>
    have h1:((0:Int)≤((0:Nat):Int)-1)=False:=by simp
    have hab:a=b:=by simpa using he
    subst hab;simp only [go_sem,seval,dw,h1,Zri]
   |succ i=>
    have hs:(((i+1:Nat):Int)-1)=(i:Int):=by omega
    have h1:((0:Int)≤(i:Int))=True:=by simp
    have hga:=Qa0 BW_2 (show i<(digs BW a).length by omega);have hgb:=Qa0 BW_2 (show i<(digs BW b).length by omega);by_cases hlt:a/BW^i%BW<b/BW^i%BW
    ·have h2:(((a/BW^i%BW:Nat):Int)<((b/BW^i%BW:Nat):Int))=True:=by simp only [eq_iff_iff,iff_true];omega
     have hc:=Zrg (Qs2 (by decide) he hlt);simp only [go_sem,seval,dw,hs,h1,Qcr,hga,hgb,h2,hc];exact Qac _ _ (by kernel_rfl)
    ·have h2:(((a/BW^i%BW:Nat):Int)<((b/BW^i%BW:Nat):Int))=False:=by simp only [eq_iff_iff,iff_false];omega
     by_cases hgt:b/BW^i%BW<a/BW^i%BW
     ·have h3:(((b/BW^i%BW:Nat):Int)<((a/BW^i%BW:Nat):Int))=True:=by simp only [eq_iff_iff,iff_true];omega
      have hc:=Zrh (Qs2 (by decide) he.symm hgt);simp only [go_sem,seval,dw,hs,h1,Qcr,hga,hgb,h2,h3,hc];exact⟨Qac _ _ (by kernel_rfl),Qac _ _ (by kernel_rfl)⟩
     ·have h3:(((b/BW^i%BW:Nat):Int)<((a/BW^i%BW:Nat):Int))=False:=by simp only [eq_iff_iff,iff_false];omega
      have hw2:IntKind.i64.wrap ((i:Int)-1)=(i:Int)-1:=Qag (by omega) (by omega);simp only [go_sem,seval,dw,hs,h1,Qcr,hga,hgb,h2,h3,hw2];refine⟨Qac _ _ (by kernel_rfl),Qac _ _ (by kernel_rfl),⟨i,by omega,Q0w (by decide) he (by omega)⟩,by simp,?_⟩;exact Qax (by simp [Qae,lkp,ren1,ren0,dw])
 ·have hl':(((digs BW a).length:Int) != ((digs BW b).length:Int))=true:=by simp;omega
  have hw:IntKind.i64.wrap (((digs BW a).length:Int)-((digs BW b).length:Int))=((digs BW a).length:Int)-((digs BW b).length:Int):=Qag (by omega) (by omega);rw [cmpW,if_neg hl];simp only [go_sem,seval,dw,List.length_map,hl',hw]
theorem Qdb (l:List Nat) (i:Nat) (d:Nat):(l.map fW).set i (PV.int .u64 (d:Int))=(l.set i d).map fW:=(List.map_set (f:=fW)).symm
theorem Qeo (B n:Nat):lows B 0 n=List.replicate n 0:=by
 apply List.ext_getElem?;intro k;by_cases h:k<n
 ·rw [Qb5 _ _ _ h];simp [h]
 ·rw [List.getElem?_eq_none (by rw [Qal];omega),List.getElem?_eq_none (by simp;omega)]
theorem Qjl (V n:Nat):List.replicate n (PV.int .u64 0)=(mix BW V 0 n 0).map fW:=by
 rw [Ql2,Qeo];simp
theorem Qt3 (a b:Nat) (hba:b≤a) (ha:(digs BW a).length≤1000000000):Qaf Tryz.prog 146 [dw (digs BW a),dw (digs BW b)] (dw (digs BW (a-b))):=by
 refine Qab (tb:=[]) 41 [.tmp 4] [0,1,4,5,6,7,8,13,14,15,20] mixed Tryz.func146 rfl (by kernel_rfl) ?_;have hn0:((0:Int)≤((digs BW a).length:Int))=True:=by simp
 have hn1:((8:Nat):Int)*((digs BW a).length:Int)≤281474976710656:=by omega
 have hn2:((digs BW a).length:Int)≤9223372036854775807:=by omega
 simp only [go_sem,Nat.reduceAdd,Nat.reduceMul,Nat.reduceEqDiff,Nat.reduceLT,Nat.reduceLeDiff,reduceCtorEq,dw,List.length_map,hn0,hn1,hn2,Int.toNat_natCast];generalize hN:(digs BW a).length=N at*;rw [Qjl (a-b) N];refine Qau mixed (fun i:{i:Nat // i≤N}=>St.of [(0,dw (digs BW a)),(1,dw (digs BW b)),(4,.nilS),(5,.bs 102 1 0 N),(6,.int .u64 (bor BW a b i.1:Int)),(13,.int .i64 (N:Int)),(14,.int .i64 (i.1:Int))]
  [(102,{els:=(mix BW (a-b) 0 N i.1).map fW,esz:=1,ety:=154,fro:=0,live:=true,arr:=true})]) (fun i=>N-i.1) ⟨0,Nat.zero_le _⟩ ?_ ?_
 ·refine Qaj (θ:=[(102,102)]) rfl ?_ ?_
  ·simp [Qae,lkp,ren1,ren0,dw,Qyk]
  ·simp [Qay,lkp,Box.renames]
 ·rintro⟨i,hi⟩;have hml:=Qbt (B:=BW) (a-b) 0 N i;by_cases hA:i<N
  ·have hA':((i:Int)<(N:Int))=True:=by simp;omega
   have h0:(0≤(i:Int))=True:=by simp
   have hga:=Qa0 BW_2 (show i<(digs BW a).length by omega);have hwk:=Qak (a:=i) (by omega);have hbl:=Qyl (B:=BW) a b i;have hbl2:=Qyl (B:=BW) a b (i+1);have hst:=Qym BW_2 hba i;have hx:a/BW^i%BW<BW:=Nat.mod_lt _ (by decide);have hy:b/BW^i%BW<BW:=Nat.mod_lt _ (by decide);have hz:(a-b)/BW^i%BW<BW:=Nat.mod_lt _ (by decide);have hset:=Qer (B:=BW) (V:=a-b) (W:=a-b) (S:=0) (n:=N) (m:=i) (d:=(a-b)/BW^i%BW) (by decide) hA rfl rfl;have hy0: ¬i<(digs BW b).length→b/BW^i%BW=0:=fun h=>by rw [Qcu BW_2 (Nat.le_of_not_lt h),Nat.zero_mod]
   have hgb:i<(digs BW b).length→(digs BW b)[i]? =some (b/BW^i%BW):=fun h=>Qa0 BW_2 h;obtain⟨e,hgo⟩: ∃e:Nat,((mix BW (a-b) 0 N i).map fW)[i]? =some (PV.int .u64 (e:Int)):=⟨_,by rw [List.getElem?_map,Qdv _ _ _ _ _ hA];rfl⟩;generalize a/BW^i%BW=x at*;generalize b/BW^i%BW=y at*;generalize (a-b)/BW^i%BW=z at*;have s1:(x+18446744073709551616-y-bor BW a b i)%18446744073709551616=z:=by simp only [BW]at*;omega
   have s2:(if x<y+bor BW a b i then 1 else 0)=bor BW a b (i+1):=by
    simp only [BW]at*;split<;>omega
   have hc:=Zc0 x y (bor BW a b i) hbl;rw [s1,s2]at hc;by_cases hB:i<(digs BW b).length
   ·have hB':((i:Int)<((digs BW b).length:Int))=True:=by simp;omega
    have hgb:=hgb hB;simp only [go_sem,Nat.reduceAdd,Nat.reduceMul,Nat.reduceEqDiff,Nat.reduceLT,Nat.reduceLeDiff,reduceCtorEq,dw,List.length_map,hA',hB',h0,Qcr,hga,hgb,Int.toNat_natCast];refine Qah _ _ _ _ _ _ _ _ _ hc ?_;simp only [go_sem,Nat.reduceAdd,Nat.reduceMul,Nat.reduceEqDiff,Nat.reduceLT,Nat.reduceLeDiff,reduceIte,reduceCtorEq,hA',h0,Int.toNat_natCast,hwk,hgo];refine⟨⟨i+1,hA⟩,by simp only;omega,?_⟩;refine Qaj (θ:=[(102,102)]) rfl ?_ ?_
    ·simp [Qae,lkp,ren1,ren0,dw]
    ·rw [Qdb,hset];simp [Qay,lkp,Box.renames]
   ·have hB':((i:Int)<((digs BW b).length:Int))=False:=by simp;omega
    obtain rfl:=hy0 hB;simp only [go_sem,Nat.reduceAdd,Nat.reduceMul,Nat.reduceEqDiff,Nat.reduceLT,Nat.reduceLeDiff,reduceCtorEq,dw,List.length_map,hA',hB',h0,Qcr,hga,Int.toNat_natCast];refine Qah _ _ _ _ _ _ _ _ _ hc ?_;simp only [go_sem,Nat.reduceAdd,Nat.reduceMul,Nat.reduceEqDiff,Nat.reduceLT,Nat.reduceLeDiff,reduceIte,reduceCtorEq,hA',h0,Int.toNat_natCast,hwk,hgo];refine⟨⟨i+1,hA⟩,by simp only;omega,?_⟩;refine Qaj (θ:=[(102,102)]) rfl ?_ ?_
    ·simp [Qae,lkp,ren1,ren0,dw]
    ·rw [Qdb,hset];simp [Qay,lkp,Box.renames]
  ·have hA':((i:Int)<(N:Int))=False:=by simp;omega
   obtain rfl:i=N:=by omega
   have htk:((lows BW (a-b) i).map fW).take i=(lows BW (a-b) i).map fW:=List.take_of_length_le (by simp [Qal]);have hll:=Qal (B:=BW) (a-b) i;have hlt:a<BW^i:=by rw [←hN];exact Qa6 BW_2 a
   have hm:mix BW (a-b) 0 i i=lows BW (a-b) i:=Qgt (by decide) (by rw [Nat.div_eq_of_lt (Nat.lt_of_le_of_lt (Nat.sub_le _ _) hlt),Nat.zero_div]);simp only [go_sem,Nat.reduceAdd,Nat.reduceMul,Nat.reduceEqDiff,Nat.reduceLT,Nat.reduceLeDiff,reduceIte,reduceCtorEq,hA',List.length_map,hll,htk,hm];refine Qah _ _ _ _ _ _ _ _ _ (Qdn (lows BW (a-b) i) (by rw [Qal];simp [maxLen];omega)) ?_;simp only [go_sem,Nat.reduceAdd,Nat.reduceEqDiff,Nat.reduceLT,reduceCtorEq,dw];rw [Qcg BW_2,Nat.mod_eq_of_lt (Nat.lt_of_le_of_lt (Nat.sub_le _ _) hlt)]
end Go.Proofs.YtdpajapkhembcaaGreatDoor
