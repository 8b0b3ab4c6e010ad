/-
  KTy, Dg, KA1, Dn, KA2, Dm, KA3, KA4 (merged for the claim).
-/
import Derived.Test.YtcaffiaempefjaaGreatDoorUV
import Derived.Test.YtcaffiaempefjaaGreatDoorProg
set_option linter.unusedSimpArgs false
set_option linter.unusedVariables false
namespace Go.Proofs.YtcaffiaempefjaaGreatDoor
open Go.Vl
theorem mixed:Tryz.prog.follows .mixedOrders=true:=by kernel_rfl
theorem Zor:Tryz.prog.underlying 9=some .string:=by kernel_rfl
theorem Zru (s:ByteArray):Qbi Tryz.prog 9 (.str s)=some (.int .i64 s.size):=by simp only [Qbi,Zor]
theorem Qjt:Tryz.prog.underlying 23=some (.slice 47):=by kernel_rfl
theorem Zge (es:List PV):Qbi Tryz.prog 23 (.slc es)=some (.int .i64 es.length):=by simp only [Qbi,Qjt]
theorem Zgf:Qbi Tryz.prog 23 .nilS=some (.int .i64 0):=by simp only [Qbi,Qjt]
theorem Zgg (b e o n:Nat):Qbi Tryz.prog 23 (.bs b e o n)=some (.int .i64 n):=by simp only [Qbi,Qjt]
theorem Tc0:tyOk Tryz.prog 3=true∧Qb5 Tryz.prog 3=false∧(Tryz.prog.info? 3).isSome=true∧Qaz Tryz.prog 3=some (1,8)∧Tryz.prog.cellsOf 3=1∧Qa8 Tryz.prog 3=some (PV.int IntKind.i64 0)∧Tryz.prog.underlying 3=some (.int .i64)∧tyOk Tryz.prog 4=true∧Qb5 Tryz.prog 4=false∧(Tryz.prog.info? 4).isSome=true∧Qaz Tryz.prog 4=some (1,1)∧Tryz.prog.cellsOf 4=1∧Qa8 Tryz.prog 4=some (PV.bool Bool.false)∧Tryz.prog.underlying 4=some .bool∧tyOk Tryz.prog 5=true∧Qb5 Tryz.prog 5=false∧(Tryz.prog.info? 5).isSome=true∧Qaz Tryz.prog 5=some (1,1)∧Tryz.prog.cellsOf 5=1∧Qa8 Tryz.prog 5=some (PV.int IntKind.u8 0)∧Tryz.prog.underlying 5=some (.int .u8)∧tyOk Tryz.prog 9=true∧Qb5 Tryz.prog 9=false∧(Tryz.prog.info? 9).isSome=true∧Qaz Tryz.prog 9=some (1,16)∧Tryz.prog.cellsOf 9=1∧Qa8 Tryz.prog 9=some (PV.str {data:={toList:=[]}})∧tyOk Tryz.prog 23=true∧Qb5 Tryz.prog 23=false∧(Tryz.prog.info? 23).isSome=true∧Qaz Tryz.prog 23=some (1,24)∧Tryz.prog.cellsOf 23=1∧Qa8 Tryz.prog 23=some PV.nilS∧Qb3 Tryz.prog 23=some 47∧tyOk Tryz.prog 25=true∧Qb5 Tryz.prog 25=true∧(Tryz.prog.info? 25).isSome=true∧Qaz Tryz.prog 25=some (5,40)∧Tryz.prog.cellsOf 25=5∧Qa8 Tryz.prog 25=some (PV.agg [PV.int IntKind.i64 0,PV.int IntKind.i64 0,PV.int IntKind.i64 0,PV.int IntKind.i64 0,PV.int IntKind.i64 0]):=by repeat' (first | kernel_rfl | constructor)
theorem Qju:Tryz.prog.underlying 26=some (.slice 82):=by kernel_rfl
theorem Zgm (es:List PV):Qbi Tryz.prog 26 (.slc es)=some (.int .i64 es.length):=by simp only [Qbi,Qju]
theorem Zgn:Qbi Tryz.prog 26 .nilS=some (.int .i64 0):=by simp only [Qbi,Qju]
theorem Zgo (b e o n:Nat):Qbi Tryz.prog 26 (.bs b e o n)=some (.int .i64 n):=by simp only [Qbi,Qju]
theorem Tc1:buildable Tryz.prog 25=true∧Qa4 Tryz.prog 25 0=some (0,3,1)∧Qad Tryz.prog 25 0=some (0,1)∧Qa4 Tryz.prog 25 1=some (1,3,1)∧Qad Tryz.prog 25 1=some (1,1)∧Qa4 Tryz.prog 25 2=some (2,3,1)∧Qad Tryz.prog 25 2=some (2,1)∧Qa4 Tryz.prog 25 3=some (3,3,1)∧Qad Tryz.prog 25 3=some (3,1)∧Qa4 Tryz.prog 25 4=some (4,3,1)∧Qad Tryz.prog 25 4=some (4,1)∧Qcw Tryz.prog 25=some [1,1,1,1,1]∧tyOk Tryz.prog 26=true∧Qb5 Tryz.prog 26=false∧(Tryz.prog.info? 26).isSome=true∧Qaz Tryz.prog 26=some (1,24)∧Tryz.prog.cellsOf 26=1∧Qa8 Tryz.prog 26=some PV.nilS∧Qb3 Tryz.prog 26=some 82∧tyOk Tryz.prog 30=true∧Qb5 Tryz.prog 30=false∧(Tryz.prog.info? 30).isSome=true∧Qaz Tryz.prog 30=some (1,8)∧Tryz.prog.cellsOf 30=1∧Qa8 Tryz.prog 30=some (PV.int IntKind.i64 0)∧Tryz.prog.underlying 30=some (.int .i64)∧tyOk Tryz.prog 36=true∧Qb5 Tryz.prog 36=true∧(Tryz.prog.info? 36).isSome=true∧Qaz Tryz.prog 36=some (2,24)∧Tryz.prog.cellsOf 36=2∧Qa8 Tryz.prog 36=some (PV.agg [PV.bool Bool.false,PV.str {data:={toList:=[]}}])∧buildable Tryz.prog 36=true∧Qa4 Tryz.prog 36 0=some (0,4,1)∧Qad Tryz.prog 36 0=some (0,1)∧Qa4 Tryz.prog 36 1=some (1,9,1)∧Qad Tryz.prog 36 1=some (1,1)∧Qcw Tryz.prog 36=some [0,2]∧tyOk Tryz.prog 38=true∧Qb5 Tryz.prog 38=true:=by repeat' (first | kernel_rfl | constructor)
theorem Qjv:Tryz.prog.underlying 39=some (.slice 42):=by kernel_rfl
theorem Zgy (es:List PV):Qbi Tryz.prog 39 (.slc es)=some (.int .i64 es.length):=by simp only [Qbi,Qjv]
theorem Zgz:Qbi Tryz.prog 39 .nilS=some (.int .i64 0):=by simp only [Qbi,Qjv]
theorem Zg0 (b e o n:Nat):Qbi Tryz.prog 39 (.bs b e o n)=some (.int .i64 n):=by simp only [Qbi,Qjv]
theorem Qjw:Tryz.prog.underlying 40=some (.slice 3):=by kernel_rfl
theorem Zg4 (es:List PV):Qbi Tryz.prog 40 (.slc es)=some (.int .i64 es.length):=by simp only [Qbi,Qjw]
theorem Zg5:Qbi Tryz.prog 40 .nilS=some (.int .i64 0):=by simp only [Qbi,Qjw]
theorem Zg6 (b e o n:Nat):Qbi Tryz.prog 40 (.bs b e o n)=some (.int .i64 n):=by simp only [Qbi,Qjw]
theorem Tc2:(Tryz.prog.info? 38).isSome=true∧Qaz Tryz.prog 38=some (8,96)∧Tryz.prog.cellsOf 38=8∧Qa8 Tryz.prog 38=some (PV.agg [PV.bool Bool.false,PV.str {data:={toList:=[]}},PV.bool Bool.false,PV.str {data:={toList:=[]}},PV.bool Bool.false,PV.str {data:={toList:=[]}},PV.bool Bool.false,PV.str {data:={toList:=[]}}])∧buildable Tryz.prog 38=true∧Qa4 Tryz.prog 38 0=some (0,36,2)∧Qad Tryz.prog 38 0=some (0,2)∧Qa4 Tryz.prog 38 1=some (2,36,2)∧Qad Tryz.prog 38 1=some (2,2)∧Qa4 Tryz.prog 38 2=some (4,36,2)∧Qad Tryz.prog 38 2=some (4,2)∧Qa4 Tryz.prog 38 3=some (6,36,2)∧Qad Tryz.prog 38 3=some (6,2)∧Qcw Tryz.prog 38=some [0,2,0,2,0,2,0,2]∧tyOk Tryz.prog 39=true∧Qb5 Tryz.prog 39=false∧(Tryz.prog.info? 39).isSome=true∧Qaz Tryz.prog 39=some (1,24)∧Tryz.prog.cellsOf 39=1∧Qa8 Tryz.prog 39=some PV.nilS∧Qb3 Tryz.prog 39=some 42∧tyOk Tryz.prog 40=true∧Qb5 Tryz.prog 40=false∧(Tryz.prog.info? 40).isSome=true∧Qaz Tryz.prog 40=some (1,24)∧Tryz.prog.cellsOf 40=1∧Qa8 Tryz.prog 40=some PV.nilS∧Qb3 Tryz.prog 40=some 3∧tyOk Tryz.prog 42=true∧Qb5 Tryz.prog 42=true∧(Tryz.prog.info? 42).isSome=true∧Qaz Tryz.prog 42=some (2,32)∧Tryz.prog.cellsOf 42=2∧Qa8 Tryz.prog 42=some (PV.agg [PV.bool Bool.false,PV.nilS])∧buildable Tryz.prog 42=true∧Qa4 Tryz.prog 42 0=some (0,4,1)∧Qad Tryz.prog 42 0=some (0,1)∧Qa4 Tryz.prog 42 1=some (1,40,1)∧Qad Tryz.prog 42 1=some (1,1)∧tyOk Tryz.prog 44=true:=by repeat' (first | kernel_rfl | constructor)
theorem Tc3:Qb5 Tryz.prog 44=true∧(Tryz.prog.info? 44).isSome=true∧Qaz Tryz.prog 44=some (3,56)∧Tryz.prog.cellsOf 44=3∧Qa8 Tryz.prog 44=some (PV.agg [PV.nilS,PV.bool Bool.false,PV.nilS])∧buildable Tryz.prog 44=true∧Qa4 Tryz.prog 44 0=some (0,39,1)∧Qad Tryz.prog 44 0=some (0,1)∧Qa4 Tryz.prog 44 1=some (1,42,2)∧Qad Tryz.prog 44 1=some (1,2)∧tyOk Tryz.prog 47=true∧Qb5 Tryz.prog 47=true∧(Tryz.prog.info? 47).isSome=true∧Qaz Tryz.prog 47=some (6,96)∧Tryz.prog.cellsOf 47=6∧Qa8 Tryz.prog 47=some (PV.agg [PV.int IntKind.i64 0,PV.int IntKind.i64 0,PV.int IntKind.i64 0,PV.nilS,PV.nilS,PV.nilS])∧buildable Tryz.prog 47=true∧Qa4 Tryz.prog 47 0=some (0,3,1)∧Qad Tryz.prog 47 0=some (0,1)∧Qa4 Tryz.prog 47 1=some (1,3,1)∧Qad Tryz.prog 47 1=some (1,1)∧Qa4 Tryz.prog 47 2=some (2,3,1)∧Qad Tryz.prog 47 2=some (2,1)∧Qa4 Tryz.prog 47 3=some (3,40,1)∧Qad Tryz.prog 47 3=some (3,1)∧Qa4 Tryz.prog 47 4=some (4,40,1)∧Qad Tryz.prog 47 4=some (4,1)∧Qa4 Tryz.prog 47 5=some (5,40,1)∧Qad Tryz.prog 47 5=some (5,1)∧tyOk Tryz.prog 56=true∧Qb5 Tryz.prog 56=true∧(Tryz.prog.info? 56).isSome=true∧Qaz Tryz.prog 56=some (3,24)∧Tryz.prog.cellsOf 56=3∧Qa8 Tryz.prog 56=some (PV.agg [PV.int IntKind.i64 0,PV.int IntKind.i64 0,PV.int IntKind.i64 0])∧buildable Tryz.prog 56=true∧Qa4 Tryz.prog 56 0=some (0,3,1)∧Qad Tryz.prog 56 0=some (0,1)∧Qa4 Tryz.prog 56 1=some (1,3,1)∧Qad Tryz.prog 56 1=some (1,1):=by repeat' (first | kernel_rfl | constructor)
theorem Qjx:Tryz.prog.underlying 62=some (.slice 40):=by kernel_rfl
theorem Zhi (es:List PV):Qbi Tryz.prog 62 (.slc es)=some (.int .i64 es.length):=by simp only [Qbi,Qjx]
theorem Zhj:Qbi Tryz.prog 62 .nilS=some (.int .i64 0):=by simp only [Qbi,Qjx]
theorem Zhk (b e o n:Nat):Qbi Tryz.prog 62 (.bs b e o n)=some (.int .i64 n):=by simp only [Qbi,Qjx]
theorem Qjy:Tryz.prog.underlying 76=some (.slice 36):=by kernel_rfl
theorem Zho (es:List PV):Qbi Tryz.prog 76 (.slc es)=some (.int .i64 es.length):=by simp only [Qbi,Qjy]
theorem Zhp:Qbi Tryz.prog 76 .nilS=some (.int .i64 0):=by simp only [Qbi,Qjy]
theorem Zhq (b e o n:Nat):Qbi Tryz.prog 76 (.bs b e o n)=some (.int .i64 n):=by simp only [Qbi,Qjy]
theorem Qjz:Tryz.prog.underlying 77=some (.slice 36):=by kernel_rfl
theorem Zhu (es:List PV):Qbi Tryz.prog 77 (.slc es)=some (.int .i64 es.length):=by simp only [Qbi,Qjz]
theorem Zhv:Qbi Tryz.prog 77 .nilS=some (.int .i64 0):=by simp only [Qbi,Qjz]
theorem Zhw (b e o n:Nat):Qbi Tryz.prog 77 (.bs b e o n)=some (.int .i64 n):=by simp only [Qbi,Qjz]
theorem Tc4:Qa4 Tryz.prog 56 2=some (2,3,1)∧Qad Tryz.prog 56 2=some (2,1)∧Qcw Tryz.prog 56=some [1,1,1]∧tyOk Tryz.prog 62=true∧Qb5 Tryz.prog 62=false∧(Tryz.prog.info? 62).isSome=true∧Qaz Tryz.prog 62=some (1,24)∧Tryz.prog.cellsOf 62=1∧Qa8 Tryz.prog 62=some PV.nilS∧Qb3 Tryz.prog 62=some 40∧tyOk Tryz.prog 76=true∧Qb5 Tryz.prog 76=false∧(Tryz.prog.info? 76).isSome=true∧Qaz Tryz.prog 76=some (1,24)∧Tryz.prog.cellsOf 76=1∧Qa8 Tryz.prog 76=some PV.nilS∧Qb3 Tryz.prog 76=some 36∧tyOk Tryz.prog 77=true∧Qb5 Tryz.prog 77=false∧(Tryz.prog.info? 77).isSome=true∧Qaz Tryz.prog 77=some (1,24)∧Tryz.prog.cellsOf 77=1∧Qa8 Tryz.prog 77=some PV.nilS∧Qb3 Tryz.prog 77=some 36∧tyOk Tryz.prog 78=true∧Qb5 Tryz.prog 78=true∧(Tryz.prog.info? 78).isSome=true∧Qaz Tryz.prog 78=some (3,72)∧Tryz.prog.cellsOf 78=3∧Qa8 Tryz.prog 78=some (PV.agg [PV.nilS,PV.nilS,PV.nilS])∧Qgf Tryz.prog 78=some (3,77)∧buildable Tryz.prog 78=true∧Qad Tryz.prog 78 0=some (0,1)∧Qad Tryz.prog 78 1=some (1,1)∧Qad Tryz.prog 78 2=some (2,1)∧Qad Tryz.prog 78 3=some (3,1)∧Qad Tryz.prog 78 4=some (4,1)∧Qad Tryz.prog 78 5=some (5,1)∧Qad Tryz.prog 78 6=some (6,1)∧Qad Tryz.prog 78 7=some (7,1):=by repeat' (first | kernel_rfl | constructor)
theorem Tc5:Qad Tryz.prog 78 8=some (8,1)∧Qad Tryz.prog 78 9=some (9,1)∧Qad Tryz.prog 78 10=some (10,1)∧Qad Tryz.prog 78 11=some (11,1)∧Qad Tryz.prog 78 12=some (12,1)∧Qad Tryz.prog 78 13=some (13,1)∧Qad Tryz.prog 78 14=some (14,1)∧Qad Tryz.prog 78 15=some (15,1)∧Qad Tryz.prog 78 16=some (16,1)∧Qad Tryz.prog 78 17=some (17,1)∧Qad Tryz.prog 78 18=some (18,1)∧Qad Tryz.prog 78 19=some (19,1)∧tyOk Tryz.prog 82=true∧Qb5 Tryz.prog 82=true∧(Tryz.prog.info? 82).isSome=true∧Qaz Tryz.prog 82=some (11,88)∧Tryz.prog.cellsOf 82=11∧Qa8 Tryz.prog 82=some (PV.agg [PV.int IntKind.i64 0,PV.int IntKind.i64 0,PV.int IntKind.i64 0,PV.int IntKind.i64 0,PV.int IntKind.i64 0,PV.int IntKind.i64 0,PV.int IntKind.i64 0,PV.int IntKind.i64 0,PV.int IntKind.i64 0,PV.int IntKind.i64 0,PV.int IntKind.i64 0])∧buildable Tryz.prog 82=true∧Qa4 Tryz.prog 82 0=some (0,56,3)∧Qad Tryz.prog 82 0=some (0,3)∧Qa4 Tryz.prog 82 1=some (3,56,3)∧Qad Tryz.prog 82 1=some (3,3)∧Qa4 Tryz.prog 82 2=some (6,3,1)∧Qad Tryz.prog 82 2=some (6,1)∧Qa4 Tryz.prog 82 3=some (7,3,1)∧Qad Tryz.prog 82 3=some (7,1)∧Qa4 Tryz.prog 82 4=some (8,56,3)∧Qad Tryz.prog 82 4=some (8,3)∧Qcw Tryz.prog 82=some [1,1,1,1,1,1,1,1,1,1,1]∧tyOk Tryz.prog 84=true∧Qb5 Tryz.prog 84=false∧(Tryz.prog.info? 84).isSome=true∧Qaz Tryz.prog 84=some (1,8)∧Tryz.prog.cellsOf 84=1∧Qa8 Tryz.prog 84=some PV.nilF∧tyOk Tryz.prog 90=true∧Qb5 Tryz.prog 90=false∧(Tryz.prog.info? 90).isSome=true∧Qaz Tryz.prog 90=some (1,24):=by repeat' (first | kernel_rfl | constructor)
theorem Qj0:Tryz.prog.underlying 90=some (.slice 56):=by kernel_rfl
theorem Zig (es:List PV):Qbi Tryz.prog 90 (.slc es)=some (.int .i64 es.length):=by simp only [Qbi,Qj0]
theorem Zih:Qbi Tryz.prog 90 .nilS=some (.int .i64 0):=by simp only [Qbi,Qj0]
theorem Zii (b e o n:Nat):Qbi Tryz.prog 90 (.bs b e o n)=some (.int .i64 n):=by simp only [Qbi,Qj0]
theorem Qh4:Tryz.prog.underlying 101=some (.slice 5):=by kernel_rfl
theorem Q8l (es:List PV):Qbi Tryz.prog 101 (.slc es)=some (.int .i64 es.length):=by simp only [Qbi,Qh4]
theorem Q8m:Qbi Tryz.prog 101 .nilS=some (.int .i64 0):=by simp only [Qbi,Qh4]
theorem Q8n (b e o n:Nat):Qbi Tryz.prog 101 (.bs b e o n)=some (.int .i64 n):=by simp only [Qbi,Qh4]
theorem Tc6:Tryz.prog.cellsOf 90=1∧Qa8 Tryz.prog 90=some PV.nilS∧Qb3 Tryz.prog 90=some 56∧tyOk Tryz.prog 101=true∧Qb5 Tryz.prog 101=false∧(Tryz.prog.info? 101).isSome=true∧Qaz Tryz.prog 101=some (1,24)∧Tryz.prog.cellsOf 101=1∧Qa8 Tryz.prog 101=some PV.nilS∧Qb3 Tryz.prog 101=some 5∧tyOk Tryz.prog 106=true∧Qb5 Tryz.prog 106=false∧(Tryz.prog.info? 106).isSome=true∧Qaz Tryz.prog 106=some (1,8)∧Tryz.prog.cellsOf 106=1∧tyOk Tryz.prog 107=true∧Qb5 Tryz.prog 107=true∧(Tryz.prog.info? 107).isSome=true∧Qaz Tryz.prog 107=some (3,24)∧Tryz.prog.cellsOf 107=3∧Qgf Tryz.prog 107=some (3,106)∧buildable Tryz.prog 107=true∧Qad Tryz.prog 107 0=some (0,1)∧Qad Tryz.prog 107 1=some (1,1)∧Qad Tryz.prog 107 2=some (2,1)∧Qad Tryz.prog 107 3=some (3,1)∧Qad Tryz.prog 107 4=some (4,1)∧Qad Tryz.prog 107 5=some (5,1)∧Qad Tryz.prog 107 6=some (6,1)∧Qad Tryz.prog 107 7=some (7,1)∧Qad Tryz.prog 107 8=some (8,1)∧Qad Tryz.prog 107 9=some (9,1)∧Qad Tryz.prog 107 10=some (10,1)∧Qad Tryz.prog 107 11=some (11,1)∧Qad Tryz.prog 107 12=some (12,1)∧Qad Tryz.prog 107 13=some (13,1)∧Qad Tryz.prog 107 14=some (14,1)∧Qad Tryz.prog 107 15=some (15,1)∧Qad Tryz.prog 107 16=some (16,1)∧Qad Tryz.prog 107 17=some (17,1):=by repeat' (first | kernel_rfl | constructor)
theorem Tc7:Qad Tryz.prog 107 18=some (18,1)∧Qad Tryz.prog 107 19=some (19,1)∧tyOk Tryz.prog 108=true∧Qb5 Tryz.prog 108=true∧(Tryz.prog.info? 108).isSome=true∧Qaz Tryz.prog 108=some (3,72)∧Tryz.prog.cellsOf 108=3∧Qa8 Tryz.prog 108=some (PV.agg [PV.nilS,PV.nilS,PV.nilS])∧Qgf Tryz.prog 108=some (3,40)∧buildable Tryz.prog 108=true∧Qad Tryz.prog 108 0=some (0,1)∧Qad Tryz.prog 108 1=some (1,1)∧Qad Tryz.prog 108 2=some (2,1)∧Qad Tryz.prog 108 3=some (3,1)∧Qad Tryz.prog 108 4=some (4,1)∧Qad Tryz.prog 108 5=some (5,1)∧Qad Tryz.prog 108 6=some (6,1)∧Qad Tryz.prog 108 7=some (7,1)∧Qad Tryz.prog 108 8=some (8,1)∧Qad Tryz.prog 108 9=some (9,1)∧Qad Tryz.prog 108 10=some (10,1)∧Qad Tryz.prog 108 11=some (11,1)∧Qad Tryz.prog 108 12=some (12,1)∧Qad Tryz.prog 108 13=some (13,1)∧Qad Tryz.prog 108 14=some (14,1)∧Qad Tryz.prog 108 15=some (15,1)∧Qad Tryz.prog 108 16=some (16,1)∧Qad Tryz.prog 108 17=some (17,1)∧Qad Tryz.prog 108 18=some (18,1)∧Qad Tryz.prog 108 19=some (19,1)∧tyOk Tryz.prog 115=true∧Qb5 Tryz.prog 115=false∧(Tryz.prog.info? 115).isSome=true∧Qaz Tryz.prog 115=some (1,8)∧Tryz.prog.cellsOf 115=1∧Qa8 Tryz.prog 115=some (PV.int IntKind.u64 0)∧Tryz.prog.underlying 115=some (.int .u64)∧tyOk Tryz.prog 118=true∧Qb5 Tryz.prog 118=false∧(Tryz.prog.info? 118).isSome=true:=by repeat' (first | kernel_rfl | constructor)
theorem Qh5:Tryz.prog.underlying 118=some (.slice 115):=by kernel_rfl
theorem Q9h (es:List PV):Qbi Tryz.prog 118 (.slc es)=some (.int .i64 es.length):=by simp only [Qbi,Qh5]
theorem Q9i:Qbi Tryz.prog 118 .nilS=some (.int .i64 0):=by simp only [Qbi,Qh5]
theorem Q9j (b e o n:Nat):Qbi Tryz.prog 118 (.bs b e o n)=some (.int .i64 n):=by simp only [Qbi,Qh5]
theorem Tc8:Qaz Tryz.prog 118=some (1,24)∧Tryz.prog.cellsOf 118=1∧Qa8 Tryz.prog 118=some PV.nilS∧Qb3 Tryz.prog 118=some 115∧tyOk Tryz.prog 121=true∧Qb5 Tryz.prog 121=true∧(Tryz.prog.info? 121).isSome=true∧Qaz Tryz.prog 121=some (2,32)∧Tryz.prog.cellsOf 121=2∧Qa8 Tryz.prog 121=some (PV.agg [PV.bool Bool.false,PV.nilS])∧buildable Tryz.prog 121=true∧Qa4 Tryz.prog 121 0=some (0,4,1)∧Qad Tryz.prog 121 0=some (0,1)∧Qa4 Tryz.prog 121 1=some (1,118,1)∧Qad Tryz.prog 121 1=some (1,1)∧tyOk Tryz.prog 126=true∧Qb5 Tryz.prog 126=true∧(Tryz.prog.info? 126).isSome=true∧Qaz Tryz.prog 126=some (3,24)∧Tryz.prog.cellsOf 126=3∧Qa8 Tryz.prog 126=some (PV.agg [PV.int IntKind.i64 0,PV.int IntKind.i64 0,PV.int IntKind.i64 0])∧Qgf Tryz.prog 126=some (3,3)∧buildable Tryz.prog 126=true∧Qad Tryz.prog 126 0=some (0,1)∧Qad Tryz.prog 126 1=some (1,1)∧Qad Tryz.prog 126 2=some (2,1)∧Qad Tryz.prog 126 3=some (3,1)∧Qad Tryz.prog 126 4=some (4,1)∧Qad Tryz.prog 126 5=some (5,1)∧Qad Tryz.prog 126 6=some (6,1)∧Qad Tryz.prog 126 7=some (7,1)∧Qad Tryz.prog 126 8=some (8,1)∧Qad Tryz.prog 126 9=some (9,1)∧Qad Tryz.prog 126 10=some (10,1)∧Qad Tryz.prog 126 11=some (11,1)∧Qad Tryz.prog 126 12=some (12,1)∧Qad Tryz.prog 126 13=some (13,1)∧Qad Tryz.prog 126 14=some (14,1)∧Qad Tryz.prog 126 15=some (15,1)∧Qad Tryz.prog 126 16=some (16,1):=by repeat' (first | kernel_rfl | constructor)
theorem Tc9:Qad Tryz.prog 126 17=some (17,1)∧Qad Tryz.prog 126 18=some (18,1)∧Qad Tryz.prog 126 19=some (19,1)∧tyOk Tryz.prog 132=true∧Qb5 Tryz.prog 132=false∧(Tryz.prog.info? 132).isSome=true∧Qaz Tryz.prog 132=some (1,8)∧Tryz.prog.cellsOf 132=1∧Qa8 Tryz.prog 132=some (PV.int IntKind.u64 0)∧Tryz.prog.underlying 132=some (.int .u64)∧tyOk Tryz.prog 133=true∧Qb5 Tryz.prog 133=false∧(Tryz.prog.info? 133).isSome=true∧Qaz Tryz.prog 133=some (1,8)∧Tryz.prog.cellsOf 133=1∧Qa8 Tryz.prog 133=some (PV.int IntKind.u64 0)∧Tryz.prog.underlying 133=some (.int .u64)∧tyOk Tryz.prog 137=true∧Qb5 Tryz.prog 137=true∧(Tryz.prog.info? 137).isSome=true∧Qaz Tryz.prog 137=some (4,48)∧Tryz.prog.cellsOf 137=4∧Qa8 Tryz.prog 137=some (PV.agg [PV.bool Bool.false,PV.str {data:={toList:=[]}},PV.bool Bool.false,PV.str {data:={toList:=[]}}])∧buildable Tryz.prog 137=true∧Qa4 Tryz.prog 137 0=some (0,36,2)∧Qad Tryz.prog 137 0=some (0,2)∧Qa4 Tryz.prog 137 1=some (2,36,2)∧Qad Tryz.prog 137 1=some (2,2)∧Qcw Tryz.prog 137=some [0,2,0,2]∧tyOk Tryz.prog 142=true∧Qb5 Tryz.prog 142=true∧(Tryz.prog.info? 142).isSome=true∧Qaz Tryz.prog 142=some (2,32)∧Tryz.prog.cellsOf 142=2∧Qa8 Tryz.prog 142=some (PV.agg [PV.nilS,PV.int IntKind.i64 0])∧buildable Tryz.prog 142=true∧Qa4 Tryz.prog 142 0=some (0,40,1)∧Qad Tryz.prog 142 0=some (0,1)∧Qa4 Tryz.prog 142 1=some (1,3,1)∧Qad Tryz.prog 142 1=some (1,1):=by repeat' (first | kernel_rfl | constructor)
theorem Tc10:tyOk Tryz.prog 143=true∧Qb5 Tryz.prog 143=true∧(Tryz.prog.info? 143).isSome=true∧Qaz Tryz.prog 143=some (6,96)∧Tryz.prog.cellsOf 143=6∧Qa8 Tryz.prog 143=some (PV.agg [PV.nilS,PV.int IntKind.i64 0,PV.nilS,PV.int IntKind.i64 0,PV.nilS,PV.int IntKind.i64 0])∧Qgf Tryz.prog 143=some (3,142)∧buildable Tryz.prog 143=true∧Qad Tryz.prog 143 0=some (0,2)∧Qad Tryz.prog 143 1=some (2,2)∧Qad Tryz.prog 143 2=some (4,2)∧Qad Tryz.prog 143 3=some (6,2)∧Qad Tryz.prog 143 4=some (8,2)∧Qad Tryz.prog 143 5=some (10,2)∧Qad Tryz.prog 143 6=some (12,2)∧Qad Tryz.prog 143 7=some (14,2)∧Qad Tryz.prog 143 8=some (16,2)∧Qad Tryz.prog 143 9=some (18,2)∧Qad Tryz.prog 143 10=some (20,2)∧Qad Tryz.prog 143 11=some (22,2)∧Qad Tryz.prog 143 12=some (24,2)∧Qad Tryz.prog 143 13=some (26,2)∧Qad Tryz.prog 143 14=some (28,2)∧Qad Tryz.prog 143 15=some (30,2)∧Qad Tryz.prog 143 16=some (32,2)∧Qad Tryz.prog 143 17=some (34,2)∧Qad Tryz.prog 143 18=some (36,2)∧Qad Tryz.prog 143 19=some (38,2)∧tyOk Tryz.prog 162=true∧Qb5 Tryz.prog 162=true∧(Tryz.prog.info? 162).isSome=true∧Qaz Tryz.prog 162=some (1,8)∧Tryz.prog.cellsOf 162=1∧Qa8 Tryz.prog 162=some (PV.agg [PV.int IntKind.i64 0])∧buildable Tryz.prog 162=true∧Qa4 Tryz.prog 162 0=some (0,30,1)∧Qad Tryz.prog 162 0=some (0,1)∧Qcw Tryz.prog 162=some [1]∧tyOk Tryz.prog 164=true∧Qb5 Tryz.prog 164=true:=by repeat' (first | kernel_rfl | constructor)
theorem Tc11:(Tryz.prog.info? 164).isSome=true∧Qaz Tryz.prog 164=some (1,8)∧Tryz.prog.cellsOf 164=1∧Qa8 Tryz.prog 164=some (PV.agg [PV.int IntKind.i64 0])∧buildable Tryz.prog 164=true∧Qa4 Tryz.prog 164 0=some (0,162,1)∧Qad Tryz.prog 164 0=some (0,1)∧Qcw Tryz.prog 164=some [1]∧tyOk Tryz.prog 173=true∧Qb5 Tryz.prog 173=true∧(Tryz.prog.info? 173).isSome=true∧Qaz Tryz.prog 173=some (6,72)∧Tryz.prog.cellsOf 173=6∧Qa8 Tryz.prog 173=some (PV.agg [PV.bool Bool.false,PV.str {data:={toList:=[]}},PV.bool Bool.false,PV.str {data:={toList:=[]}},PV.bool Bool.false,PV.str {data:={toList:=[]}}])∧Qgf Tryz.prog 173=some (3,36)∧buildable Tryz.prog 173=true∧Qad Tryz.prog 173 0=some (0,2)∧Qad Tryz.prog 173 1=some (2,2)∧Qad Tryz.prog 173 2=some (4,2)∧Qad Tryz.prog 173 3=some (6,2)∧Qad Tryz.prog 173 4=some (8,2)∧Qad Tryz.prog 173 5=some (10,2)∧Qad Tryz.prog 173 6=some (12,2)∧Qad Tryz.prog 173 7=some (14,2)∧Qad Tryz.prog 173 8=some (16,2)∧Qad Tryz.prog 173 9=some (18,2)∧Qad Tryz.prog 173 10=some (20,2)∧Qad Tryz.prog 173 11=some (22,2)∧Qad Tryz.prog 173 12=some (24,2)∧Qad Tryz.prog 173 13=some (26,2)∧Qad Tryz.prog 173 14=some (28,2)∧Qad Tryz.prog 173 15=some (30,2)∧Qad Tryz.prog 173 16=some (32,2)∧Qad Tryz.prog 173 17=some (34,2)∧Qad Tryz.prog 173 18=some (36,2)∧Qad Tryz.prog 173 19=some (38,2)∧tyOk Tryz.prog 177=true∧Qb5 Tryz.prog 177=true∧(Tryz.prog.info? 177).isSome=true∧Qaz Tryz.prog 177=some (4,48):=by repeat' (first | kernel_rfl | constructor)
theorem Qh6:Tryz.prog.underlying 181=some (.slice 137):=by kernel_rfl
theorem Za3 (es:List PV):Qbi Tryz.prog 181 (.slc es)=some (.int .i64 es.length):=by simp only [Qbi,Qh6]
theorem Za4:Qbi Tryz.prog 181 .nilS=some (.int .i64 0):=by simp only [Qbi,Qh6]
theorem Za5 (b e o n:Nat):Qbi Tryz.prog 181 (.bs b e o n)=some (.int .i64 n):=by simp only [Qbi,Qh6]
theorem Tc12:Tryz.prog.cellsOf 177=4∧Qa8 Tryz.prog 177=some (PV.agg [PV.bool Bool.false,PV.str {data:={toList:=[]}},PV.bool Bool.false,PV.str {data:={toList:=[]}}])∧buildable Tryz.prog 177=true∧Qa4 Tryz.prog 177 0=some (0,36,2)∧Qad Tryz.prog 177 0=some (0,2)∧Qa4 Tryz.prog 177 1=some (2,36,2)∧Qad Tryz.prog 177 1=some (2,2)∧Qcw Tryz.prog 177=some [0,2,0,2]∧tyOk Tryz.prog 181=true∧Qb5 Tryz.prog 181=false∧(Tryz.prog.info? 181).isSome=true∧Qaz Tryz.prog 181=some (1,24)∧Tryz.prog.cellsOf 181=1∧Qa8 Tryz.prog 181=some PV.nilS∧Qb3 Tryz.prog 181=some 137∧tyOk Tryz.prog 192=true∧Qb5 Tryz.prog 192=true∧(Tryz.prog.info? 192).isSome=true∧Qaz Tryz.prog 192=some (6,48)∧Tryz.prog.cellsOf 192=6∧Qa8 Tryz.prog 192=some (PV.agg [PV.int IntKind.i64 0,PV.int IntKind.i64 0,PV.int IntKind.i64 0,PV.int IntKind.i64 0,PV.int IntKind.i64 0,PV.int IntKind.i64 0])∧Qgf Tryz.prog 192=some (6,3)∧buildable Tryz.prog 192=true∧Qad Tryz.prog 192 0=some (0,1)∧Qad Tryz.prog 192 1=some (1,1)∧Qad Tryz.prog 192 2=some (2,1)∧Qad Tryz.prog 192 3=some (3,1)∧Qad Tryz.prog 192 4=some (4,1)∧Qad Tryz.prog 192 5=some (5,1)∧Qad Tryz.prog 192 6=some (6,1)∧Qad Tryz.prog 192 7=some (7,1)∧Qad Tryz.prog 192 8=some (8,1)∧Qad Tryz.prog 192 9=some (9,1)∧Qad Tryz.prog 192 10=some (10,1)∧Qad Tryz.prog 192 11=some (11,1)∧Qad Tryz.prog 192 12=some (12,1)∧Qad Tryz.prog 192 13=some (13,1)∧Qad Tryz.prog 192 14=some (14,1)∧Qad Tryz.prog 192 15=some (15,1)∧Qad Tryz.prog 192 16=some (16,1):=by repeat' (first | kernel_rfl | constructor)
theorem Tc13:Qad Tryz.prog 192 17=some (17,1)∧Qad Tryz.prog 192 18=some (18,1)∧Qad Tryz.prog 192 19=some (19,1)∧tyOk Tryz.prog 193=true∧Qb5 Tryz.prog 193=true∧(Tryz.prog.info? 193).isSome=true∧Qaz Tryz.prog 193=some (36,288)∧Tryz.prog.cellsOf 193=36∧Qa8 Tryz.prog 193=some (PV.agg [PV.int IntKind.i64 0,PV.int IntKind.i64 0,PV.int IntKind.i64 0,PV.int IntKind.i64 0,PV.int IntKind.i64 0,PV.int IntKind.i64 0,PV.int IntKind.i64 0,PV.int IntKind.i64 0,PV.int IntKind.i64 0,PV.int IntKind.i64 0,PV.int IntKind.i64 0,PV.int IntKind.i64 0,PV.int IntKind.i64 0,PV.int IntKind.i64 0,PV.int IntKind.i64 0,PV.int IntKind.i64 0,PV.int IntKind.i64 0,PV.int IntKind.i64 0,PV.int IntKind.i64 0,PV.int IntKind.i64 0,PV.int IntKind.i64 0,PV.int IntKind.i64 0,PV.int IntKind.i64 0,PV.int IntKind.i64 0,PV.int IntKind.i64 0,PV.int IntKind.i64 0,PV.int IntKind.i64 0,PV.int IntKind.i64 0,PV.int IntKind.i64 0,PV.int IntKind.i64 0,PV.int IntKind.i64 0,PV.int IntKind.i64 0,PV.int IntKind.i64 0,PV.int IntKind.i64 0,PV.int IntKind.i64 0,PV.int IntKind.i64 0])∧Qgf Tryz.prog 193=some (6,192)∧buildable Tryz.prog 193=true∧Qad Tryz.prog 193 0=some (0,6)∧Qad Tryz.prog 193 1=some (6,6)∧Qad Tryz.prog 193 2=some (12,6)∧Qad Tryz.prog 193 3=some (18,6)∧Qad Tryz.prog 193 4=some (24,6)∧Qad Tryz.prog 193 5=some (30,6)∧Qad Tryz.prog 193 6=some (36,6)∧Qad Tryz.prog 193 7=some (42,6)∧Qad Tryz.prog 193 8=some (48,6)∧Qad Tryz.prog 193 9=some (54,6)∧Qad Tryz.prog 193 10=some (60,6)∧Qad Tryz.prog 193 11=some (66,6)∧Qad Tryz.prog 193 12=some (72,6)∧Qad Tryz.prog 193 13=some (78,6)∧Qad Tryz.prog 193 14=some (84,6)∧Qad Tryz.prog 193 15=some (90,6)∧Qad Tryz.prog 193 16=some (96,6)∧Qad Tryz.prog 193 17=some (102,6)∧Qad Tryz.prog 193 18=some (108,6)∧Qad Tryz.prog 193 19=some (114,6)∧tyOk Tryz.prog 209=true∧Qb5 Tryz.prog 209=false∧(Tryz.prog.info? 209).isSome=true∧Qaz Tryz.prog 209=some (1,4)∧Tryz.prog.cellsOf 209=1∧Qa8 Tryz.prog 209=some (PV.int IntKind.u32 0)∧Tryz.prog.underlying 209=some (.int .u32)∧tyOk Tryz.prog 214=true∧Qb5 Tryz.prog 214=true:=by repeat' (first | kernel_rfl | constructor)
theorem Tc14:(Tryz.prog.info? 214).isSome=true∧Qaz Tryz.prog 214=some (64,64)∧Tryz.prog.cellsOf 214=64∧Qa8 Tryz.prog 214=some (PV.agg [PV.int IntKind.u8 0,PV.int IntKind.u8 0,PV.int IntKind.u8 0,PV.int IntKind.u8 0,PV.int IntKind.u8 0,PV.int IntKind.u8 0,PV.int IntKind.u8 0,PV.int IntKind.u8 0,PV.int IntKind.u8 0,PV.int IntKind.u8 0,PV.int IntKind.u8 0,PV.int IntKind.u8 0,PV.int IntKind.u8 0,PV.int IntKind.u8 0,PV.int IntKind.u8 0,PV.int IntKind.u8 0,PV.int IntKind.u8 0,PV.int IntKind.u8 0,PV.int IntKind.u8 0,PV.int IntKind.u8 0,PV.int IntKind.u8 0,PV.int IntKind.u8 0,PV.int IntKind.u8 0,PV.int IntKind.u8 0,PV.int IntKind.u8 0,PV.int IntKind.u8 0,PV.int IntKind.u8 0,PV.int IntKind.u8 0,PV.int IntKind.u8 0,PV.int IntKind.u8 0,PV.int IntKind.u8 0,PV.int IntKind.u8 0,PV.int IntKind.u8 0,PV.int IntKind.u8 0,PV.int IntKind.u8 0,PV.int IntKind.u8 0,PV.int IntKind.u8 0,PV.int IntKind.u8 0,PV.int IntKind.u8 0,PV.int IntKind.u8 0,PV.int IntKind.u8 0,PV.int IntKind.u8 0,PV.int IntKind.u8 0,PV.int IntKind.u8 0,PV.int IntKind.u8 0,PV.int IntKind.u8 0,PV.int IntKind.u8 0,PV.int IntKind.u8 0,PV.int IntKind.u8 0,PV.int IntKind.u8 0,PV.int IntKind.u8 0,PV.int IntKind.u8 0,PV.int IntKind.u8 0,PV.int IntKind.u8 0,PV.int IntKind.u8 0,PV.int IntKind.u8 0,PV.int IntKind.u8 0,PV.int IntKind.u8 0,PV.int IntKind.u8 0,PV.int IntKind.u8 0,PV.int IntKind.u8 0,PV.int IntKind.u8 0,PV.int IntKind.u8 0,PV.int IntKind.u8 0])∧Qgf Tryz.prog 214=some (64,5)∧buildable Tryz.prog 214=true∧Qad Tryz.prog 214 0=some (0,1)∧Qad Tryz.prog 214 1=some (1,1)∧Qad Tryz.prog 214 2=some (2,1)∧Qad Tryz.prog 214 3=some (3,1)∧Qad Tryz.prog 214 4=some (4,1)∧Qad Tryz.prog 214 5=some (5,1)∧Qad Tryz.prog 214 6=some (6,1)∧Qad Tryz.prog 214 7=some (7,1)∧Qad Tryz.prog 214 8=some (8,1)∧Qad Tryz.prog 214 9=some (9,1)∧Qad Tryz.prog 214 10=some (10,1)∧Qad Tryz.prog 214 11=some (11,1)∧Qad Tryz.prog 214 12=some (12,1)∧Qad Tryz.prog 214 13=some (13,1)∧Qad Tryz.prog 214 14=some (14,1)∧Qad Tryz.prog 214 15=some (15,1)∧Qad Tryz.prog 214 16=some (16,1)∧Qad Tryz.prog 214 17=some (17,1)∧Qad Tryz.prog 214 18=some (18,1)∧Qad Tryz.prog 214 19=some (19,1)∧tyOk Tryz.prog 217=true∧Qb5 Tryz.prog 217=false∧(Tryz.prog.info? 217).isSome=true∧Qaz Tryz.prog 217=some (1,16)∧Tryz.prog.cellsOf 217=1∧Qa8 Tryz.prog 217=some PV.nilI:=by repeat' (first | kernel_rfl | constructor)
attribute [go_sem] Zor Zru Qjt Zge Zgf Zgg Qju Zgm Zgn Zgo Qjv Zgy Zgz Zg0 Qjw Zg4 Zg5 Zg6 Qjx Zhi Zhj Zhk Qjy Zho Zhp Zhq Qjz Zhu Zhv Zhw Qj0 Zig Zih Zii Qh4 Q8l Q8m Q8n Qh5 Q9h Q9i Q9j Qh6 Za3 Za4
attribute [go_sem] Za5 Tc0 Tc1 Tc2 Tc3 Tc4 Tc5 Tc6 Tc7 Tc8 Tc9 Tc10 Tc11 Tc12 Tc13 Tc14
end Go.Proofs.YtcaffiaempefjaaGreatDoor

namespace Go.Dg
def digs (B n:Nat):List Nat:=if h:n=0∨B<2 then []else n%B::digs B (n/B)
termination_by n
decreasing_by
 simp only [not_or,Nat.not_lt]at h;exact Nat.div_lt_self (Nat.pos_of_ne_zero h.1) h.2
def val (B:Nat):List Nat→Nat
 | []=>0
 |d::l=>d+B*val B l
section
variable {B:Nat}
theorem Qa3:digs B 0=[]:=by unfold digs;simp
theorem Qf8 (hB:2≤B) {n:Nat} (hn:n≠0):digs B n=n%B::digs B (n/B):=by
 conv=>lhs;unfold digs
 rw [dif_neg];simp only [not_or,Nat.not_lt];exact⟨hn,hB⟩
theorem Qq7 (hB:2≤B) (n:Nat):val B (digs B n)=n:=by
 induction n using Nat.strongRecOn with
 |_ n ih=>
  by_cases hn:n=0
  ·subst hn;rw [Qa3];rfl
  ·rw [Qf8 hB hn];simp only [val];rw [ih _ (Nat.div_lt_self (Nat.pos_of_ne_zero hn) hB)];exact Nat.mod_add_div n B
theorem Qq8 (hB:2≤B) (n k:Nat):(digs B n)[k]? =if n/B^k=0 then none else some (n/B^k%B):=by
 induction k generalizing n with
 |zero=>
  by_cases hn:n=0
  ·subst hn;simp [Qa3]
  ·rw [Qf8 hB hn];simp [hn]
 |succ k ih=>
  by_cases hn:n=0
  ·subst hn;simp [Qa3]
  ·rw [Qf8 hB hn,List.getElem?_cons_succ,ih];have:n/B/B^k=n/B^(k+1):=by rw [Nat.div_div_eq_div_mul,Nat.pow_succ,Nat.mul_comm]
   rw [this]
theorem Qcn (hB:2≤B) (n k:Nat):k<(digs B n).length↔n/B^k≠0:=by
 have:=Qq8 hB n k;constructor
 ·intro h hz;rw [if_pos hz,List.getElem?_eq_none_iff]at this;omega
 ·intro h;rw [if_neg h]at this;exact(List.getElem?_eq_some_iff.1 this).1
theorem Qam (hB:2≤B) (n k:Nat):(digs B n).length≤k↔n<B^k:=by
 have h:=Qcn hB n k;have hp:0<B^k:=Nat.pow_pos (by omega);rw [←Nat.not_lt,h,Decidable.not_not,Nat.div_eq_zero_iff];omega
theorem Qa0 (hB:2≤B) (n:Nat):n<B^(digs B n).length:=(Qam hB n _).1 (Nat.le_refl _)
theorem Qap (hB:2≤B) {n k:Nat} (h:k<(digs B n).length):(digs B n)[k]? =some (n/B^k%B):=by
 rw [Qq8 hB,if_neg ((Qcn hB n k).1 h)]
theorem Qm9 (hB:2≤B) {n d:Nat} (h:d∈digs B n):d<B:=by
 obtain⟨k,hk⟩:=List.mem_iff_getElem?.1 h;rw [Qq8 hB]at hk;split at hk
 ·cases hk
 ·cases hk;exact Nat.mod_lt _ (by omega)
theorem Qbf (hB:2≤B) {n k:Nat} (h:(digs B n).length≤k):n/B^k=0:=by
 have:=(Qam hB n k).1 h;exact Nat.div_eq_of_lt this
theorem Qbp (hB:2≤B) {n:Nat}:digs B n=[]↔n=0:=by
 constructor
 ·intro h;have:=Qq7 hB n;rw [h]at this;exact this.symm
 ·rintro rfl;exact Qa3
def lows (B n i:Nat):List Nat:=(List.range i).map fun k=>n/B^k%B
theorem Qaj (n i:Nat):(lows B n i).length=i:=by simp [lows]
theorem Qdn (n i:Nat):lows B n (i+1)=lows B n i++[n/B^i%B]:=by simp [lows,List.range_succ]
theorem Qb0 (n i k:Nat) (h:k<i):(lows B n i)[k]? =some (n/B^k%B):=by simp [lows,h]
theorem Qtg (n i:Nat):lows B n (i+1)=n%B::lows B (n/B) i:=by
 simp only [lows,List.range_succ_eq_map,List.map_cons,Nat.pow_zero,Nat.div_one,List.map_map];congr 1;apply List.map_congr_left;intro k _;simp only [Function.comp,Nat.succ_eq_add_one];rw [Nat.div_div_eq_div_mul,Nat.pow_succ,Nat.mul_comm]
theorem Zeo (hB:0<B) (n i:Nat):val B (lows B n i)=n%B^i:=by
 induction i generalizing n with
 |zero=>simp [lows,val,Nat.mod_one]
 |succ i ih=>
  rw [Qtg];simp only [val];rw [ih,Nat.pow_succ,Nat.mul_comm (B^i) B,Nat.mod_mul]
theorem Qhe (hB:2≤B) (n:Nat):lows B n (digs B n).length=digs B n:=by
 apply List.ext_getElem?;intro k;by_cases hk:k<(digs B n).length
 ·rw [Qb0 _ _ _ hk,Qap hB hk]
 ·rw [List.getElem?_eq_none (by rw [Qaj];omega),List.getElem?_eq_none (by omega)]
def Qdm (l:List Nat):List Nat:=(l.reverse.dropWhile (· ==0)).reverse
theorem Qc3 (l:List Nat):Qdm (l++[0])=Qdm l:=by simp [Qdm]
theorem Qe2 (l:List Nat) {d:Nat} (h:d≠0):Qdm (l++[d])=l++[d]:=by simp [Qdm,h]
theorem Q5a:Qdm []=[]:=rfl
theorem Qpp (l m:List Nat):val B (l++m)=val B l+B^l.length*val B m:=by
 induction l with
 |nil=>simp [val]
 |cons d l ih=>
  simp only [List.cons_append,val,ih,List.length_cons,Nat.pow_succ];rw [Nat.mul_add,Nat.add_assoc,←Nat.mul_assoc,Nat.mul_comm B (B^l.length)]
theorem Zwl (hB:0<B) {l:List Nat} (h: ∀d∈l,d<B):val B l<B^l.length:=by
 induction l with
 |nil=>simp [val]
 |cons d l ih=>
  have h1:=ih fun x hx=>h x (by simp [hx]);have h2:=h d (by simp);simp only [val,List.length_cons,Nat.pow_succ];have:B*val B l+B≤B*B^l.length:=by rw [←Nat.mul_succ];exact Nat.mul_le_mul_left _ h1
  rw [Nat.mul_comm (B^l.length)];omega
theorem Zep (hB:2≤B) {l:List Nat} (h: ∀d∈l,d<B):lows B (val B l) l.length=l:=by
 induction l with
 |nil=>rfl
 |cons d l ih=>
  have h2:=h d (by simp);rw [List.length_cons,Qtg];simp only [val];rw [Nat.add_mul_mod_self_left,Nat.mod_eq_of_lt h2,Nat.add_mul_div_left _ _ (by omega),Nat.div_eq_of_lt h2,Nat.zero_add,ih fun x hx=>h x (by simp [hx])]
theorem Qmk (hB:2≤B) (l:List Nat) (h: ∀d∈l,d<B):Qdm l=digs B (val B l):=by
 have key: ∀n,∀l:List Nat,l.length=n→(∀d∈l,d<B)→Qdm l=digs B (val B l):=by
  intro n
  induction n with
  |zero=>intro l hl _;rw [List.length_eq_zero_iff.1 hl];simp [Q5a,val,Qa3]
  |succ n ih=>
   intro l hl h;have hne:l≠ []:=by rintro rfl;simp at hl
   have hcut:=List.dropLast_concat_getLast hne;generalize l.dropLast=m at hcut;generalize l.getLast hne=d at hcut;subst hcut;have hm:m.length=n:=by simpa using hl
   have hmd: ∀x∈m,x<B:=fun x hx=>h x (by simp [hx]);by_cases hd:d=0
   ·subst hd;rw [Qc3,ih m hm hmd,Qpp];simp [val]
   ·rw [Qe2 m hd];have hlen:(digs B (val B (m++[d]))).length=(m++[d]).length:=by
     apply Nat.le_antisymm
     ·exact(Qam hB _ _).2 (Zwl (by omega) h)
     ·have:(m++[d]).length=m.length+1:=by simp
      rw [this];apply (Qcn hB _ _).2;rw [Qpp];simp only [val,Nat.mul_zero,Nat.add_zero];rw [Nat.add_mul_div_left _ _ (Nat.pow_pos (by omega))];exact fun e=>hd (Nat.eq_zero_of_add_eq_zero_left e)
    have:=Qhe hB (val B (m++[d]));rw [hlen,Zep hB h]at this;exact this
 exact key l.length l rfl h
theorem Qbu (hB:2≤B) (n i:Nat):Qdm (lows B n i)=digs B (n%B^i):=by
 rw [Qmk hB,Zeo (by omega)];intro d hd;simp only [lows,List.mem_map]at hd;obtain⟨k,_,rfl⟩:=hd;exact Nat.mod_lt _ (by omega)
theorem Q1b {l:List Nat} (h: ∀d,l.getLast? =some d→d≠0):Qdm l=l:=by
 by_cases hne:l=[]
 ·subst hne;rfl
 ·have hcut:=List.dropLast_concat_getLast hne;have hl:l.getLast? =some (l.getLast hne):=List.getLast?_eq_some_getLast hne;have:=h _ hl;rw [←hcut];exact Qe2 _ this
end
end Go.Dg

namespace Go.Proofs.YtcaffiaempefjaaGreatDoor
open Go.Vl Go.RowKit Go.Dg
def di (l:List Nat):PV:= .slc (l.map fun d:Nat=>PV.int .i64 (d:Int))
theorem Qfc (l:List Nat) (k:Nat):(l.map fun d:Nat=>PV.int .i64 (d:Int))[k]? =l[k]?.map fun d:Nat=>PV.int .i64 (d:Int):=List.getElem?_map
theorem Zwu (l:List Nat):((l.map fun d:Nat=>PV.int .i64 (d:Int)).all fun x=>x.cells.length==1)=true:=by rw [List.all_map,List.all_eq_true];intro d _;rfl
theorem wrapn {n:Nat} (h:n<9223372036854775808):IntKind.i64.wrap (n:Int)=n:=Qah (by omega) (by omega)
theorem Qjn {n:Nat} (h:n<9223372036854775808):IntKind.i64.wrap (((n+1:Nat):Int)-1)=(n:Int):=by
 rw [Qah (by omega) (by omega)];omega
theorem Qem:maxLen<9223372036854775808:=by simp [maxLen]
theorem Qkw (l:List Nat) (hl:l.length≤maxLen):Qaf Tryz.prog 51 [di l] (di (Qdm l)):=by
 have hm:=Qem;refine Qab (tb:=[]) 21 [.tmp 2] [0,2,14] mixed Tryz.func51 rfl (by kernel_rfl) ?_;simp -implicitDefEqProofs only [go_sem,seval,di];refine Qat mixed (fun k:{k:Nat // k≤l.length∧Qdm (l.take k)=Qdm l}=>St.of [(0,di (l.take k.1)),(2,.nilS)] []) (fun k=>k.1) ⟨l.length,Nat.le_refl _,by rw [List.take_length]⟩ ?_ ?_
 ·exact Qa5 (by simp [Qae,lkp,ren1,ren0,di])
 ·rintro⟨k,hk,ht⟩;have hlen:(l.take k).length=k:=by simp;omega
  cases k with
  |zero=>
   have h1:((0:Int)<((0:Nat):Int))=False:=by simp
   simp -implicitDefEqProofs only [go_sem,seval,di,h1];rw [←ht];rfl
  |succ k=>
   have h1:((0:Int)<((k+1:Nat):Int))=True:=by simp
   have h2:(0≤(k:Int))=True:=by simp
   have hw:=Qjn (n:=k) (by omega);have hlt:k<l.length:=by omega
   have hget:(l.take (k+1))[k]? =some l[k]:=by simp [hlt]
   have hcut:l.take (k+1)=l.take k++[l[k]]:=by rw [List.take_add_one];simp [hlt]
   cases hd:((l[k]:Int)==0)with
   |true=>
    have hd0:l[k]=0:=by simpa using hd
    have h3:((k:Int)≤((k+1:Nat):Int))=True:=by simp;omega
    simp -implicitDefEqProofs only [go_sem,seval,di,List.length_map,hlen,h1,h2,h3,hw,Int.toNat_natCast,Qfc,hget,hd,Zwu];refine⟨⟨k,by omega,?_⟩,by simp,?_⟩
    ·rw [←ht,hcut,hd0,Qc3]
    ·refine Qa5 (by simp [Qae,lkp,ren1,ren0,di];rw [←List.map_take];simp [List.take_take])
   |false=>
    have hd0:l[k]≠0:=by simpa using hd
    simp -implicitDefEqProofs only [go_sem,seval,di,List.length_map,hlen,h1,h2,hw,Int.toNat_natCast,Qfc,hget,hd];rw [←ht,hcut,Qe2 _ hd0]
end Go.Proofs.YtcaffiaempefjaaGreatDoor

namespace Go.Dg
section
variable {B:Nat}
def carry (B a b i:Nat):Nat:=(a%B^i+b%B^i)/B^i
theorem Qkq (a b:Nat):carry B a b 0=0:=by simp [carry,Nat.mod_one]
theorem Qre (hB:0<B) (a b i:Nat):carry B a b i≤1:=by
 have hp:0<B^i:=Nat.pow_pos hB;have h1:=Nat.mod_lt a hp;have h2:=Nat.mod_lt b hp;unfold carry;rw [Nat.div_le_iff_le_mul hp];omega
theorem Qrf (hB:0<B) (a b i:Nat):(a/B^i%B+b/B^i%B+carry B a b i)%B=(a+b)/B^i%B∧(a/B^i%B+b/B^i%B+carry B a b i)/B=carry B a b (i+1):=by
 have hp:0<B^i:=Nat.pow_pos hB;unfold carry;generalize hP:B^i=P at*;have e1:(a+b)/P=a/P+b/P+(a%P+b%P)/P:=by
  conv=>lhs;rw [←Nat.div_add_mod a P,←Nat.div_add_mod b P]
  have:P*(a/P)+a%P+(P*(b/P)+b%P)=(a%P+b%P)+P*(a/P+b/P):=by rw [Nat.mul_add];omega
  rw [this,Nat.add_mul_div_left _ _ hp];omega
 constructor
 ·rw [e1]
  conv=>rhs;rw [Nat.add_mod,Nat.add_mod (a/P)]
  conv=>lhs;rw [Nat.add_mod,Nat.add_mod (a/P%B)]
  simp
 ·have hP1:B^(i+1)=P*B:=by rw [Nat.pow_succ,hP]
  rw [hP1,Nat.mod_mul,Nat.mod_mul];have:a%P+P*(a/P%B)+(b%P+P*(b/P%B))=(a%P+b%P)+P*(a/P%B+b/P%B):=by rw [Nat.mul_add];omega
  rw [this,←Nat.div_div_eq_div_mul,Nat.add_mul_div_left _ _ hp];congr 1;omega
theorem Q5e (hB:0<B) (a b i:Nat):(carry B a b i+a/B^i%B+b/B^i%B)%B=(a+b)/B^i%B∧(carry B a b i+a/B^i%B+b/B^i%B)/B=carry B a b (i+1):=by
 have h:=Qrf hB a b i;have e:carry B a b i+a/B^i%B+b/B^i%B=a/B^i%B+b/B^i%B+carry B a b i:=by omega
 rw [e];exact h
theorem Qne (hB:2≤B) {n i:Nat} (h1:n<B^i) (h2: ∀j,j<i→n/B^j≠0):lows B n i=digs B n:=by
 have hl:(digs B n).length=i:=by
  apply Nat.le_antisymm ((Qam hB n i).2 h1);rcases Nat.eq_zero_or_pos i with rfl|hi
  ·exact Nat.zero_le _
  ·have:=(Qcn hB n (i-1)).2 (h2 (i-1) (by omega));omega
 rw [←hl,Qhe hB]
theorem Zer (hB:2≤B) {a b i:Nat} (ha:(digs B a).length≤i) (hb:(digs B b).length≤i) (hc:carry B a b i=0):a+b<B^i:=by
 have h1:=(Qam hB a i).1 ha;have h2:=(Qam hB b i).1 hb;unfold carry at hc;rw [Nat.mod_eq_of_lt h1,Nat.mod_eq_of_lt h2,Nat.div_eq_zero_iff]at hc;have:0<B^i:=Nat.pow_pos (by omega);omega
theorem Zes (hB:2≤B) {a b i:Nat} (h:i<(digs B a).length∨i<(digs B b).length∨0<carry B a b i):(a+b)/B^i≠0:=by
 have hp:0<B^i:=Nat.pow_pos (by omega);have hle:B^i≤a+b:=by
  rcases h with h|h|h
  ·have:=(Qcn hB a i).1 h;have:=Nat.div_eq_zero_iff (a:=a) (b:=B^i);omega
  ·have:=(Qcn hB b i).1 h;have:=Nat.div_eq_zero_iff (a:=b) (b:=B^i);omega
  ·unfold carry at h;have h1:=Nat.mod_le a (B^i);have h2:=Nat.mod_le b (B^i);have h3:=Nat.div_eq_zero_iff (a:=a%B^i+b%B^i) (b:=B^i);omega
 have:=Nat.div_eq_zero_iff (a:=a+b) (b:=B^i);omega
end
end Go.Dg

namespace Go.Proofs.YtcaffiaempefjaaGreatDoor
open Go.Vl Go.RowKit Go.Dg
abbrev E9:Nat:=1000000000
theorem E9_2:2≤E9:=by decide
abbrev fI:Nat→PV:=fun d:Nat=>PV.int .i64 (d:Int)
theorem Qli (l:List Nat):(((l.map fun d:Nat=>PV.int .i64 (d:Int)).flatMap PV.cells).all PV.okCell)=true:=by
 rw [List.all_eq_true];intro x hx;obtain⟨y,hy,hx⟩:=List.mem_flatMap.1 hx;obtain⟨d,_,rfl⟩:=List.mem_map.1 hy;simp only [Zy8,List.mem_singleton]at hx;subst hx;rfl
theorem Qrn (n:Nat):Int.tmod (n:Int) 1000000000=((n%1000000000:Nat):Int):=by
 rw [Int.tmod_eq_emod_of_nonneg (by omega)];rfl
theorem Qro (n:Nat):Int.tdiv (n:Int) 1000000000=((n/1000000000:Nat):Int):=by
 rw [Int.tdiv_eq_ediv_of_nonneg (by omega)];rfl
theorem Qcu {a b:Nat} (h:a+b<9223372036854775808):IntKind.i64.wrap ((a:Int)+(b:Int))=((a+b:Nat):Int):=by
 rw [Qah (by omega) (by omega)];omega
theorem Qai {a:Nat} (h:a+1<9223372036854775808):IntKind.i64.wrap ((a:Int)+1)=((a+1:Nat):Int):=by
 rw [Qah (by omega) (by omega)];omega
theorem Zqm (a b:Nat) (hl:(digs E9 (a+b)).length≤1000000000):Qaf Tryz.prog 47 [di (digs E9 a),di (digs E9 b)] (di (digs E9 (a+b))):=by
 have hm:=Qem;refine Qab (tb:=[]) 52 [.tmp 4] [0,1,4,5,6,7,21,27,37] mixed Tryz.func47 rfl (by kernel_rfl) ?_;simp -implicitDefEqProofs only [go_sem,seval,di];refine Qat mixed (fun i:{i:Nat // i≤(digs E9 (a+b)).length∧ ∀j,j<i→(a+b)/E9^j≠0}=>St.of [(0,di (digs E9 a)),(1,di (digs E9 b)),(4,.nilS),(5,.bs 7 1 0 i.1),(6,.int .i64 (carry E9 a b i.1:Int)),(7,.int .i64 (i.1:Int))]
  [(7,{els:=(lows E9 (a+b) i.1).map fI,esz:=1,ety:=3,fro:=0,live:=true,arr:=true})]) (fun i=>(digs E9 (a+b)).length+1-i.1) ⟨0,Nat.zero_le _,by omega⟩ ?_ ?_
 ·refine Qhu 5 7 1 3 rfl rfl rfl (by decide) [(7,7)] rfl ?_ ?_
  ·simp [Qae,lkp,ren1,ren0,di,Qkq]
  ·simp [Qal,lkp,Box.renames,lows]
 ·rintro⟨i,hi,hmore⟩;have h0:(0≤(i:Int))=True:=by simp
  have hll:=Qaj (B:=E9) (a+b) i;have hcle:=Qre (B:=E9) (by decide) a b i;obtain⟨hs1,hs2⟩:(carry E9 a b i+a/E9^i%E9+b/E9^i%E9)%1000000000=(a+b)/E9^i%E9∧(carry E9 a b i+a/E9^i%E9+b/E9^i%E9)/1000000000=carry E9 a b (i+1):=Q5e (B:=E9) (by decide) a b i;have hda:a/E9^i%E9<E9:=Nat.mod_lt _ (by decide);have hdb:b/E9^i%E9<E9:=Nat.mod_lt _ (by decide);have hb1:((i+1)*8≤140737488355328)=True:=by simp;omega
  have hb2:(i+1≤maxLen)=True:=by simp [maxLen];omega
  have hwi:=Qai (a:=i) (by omega);have next: ∀s,((i<(digs E9 a).length)∨(i<(digs E9 b).length)∨0<carry E9 a b i)→Le s (St.of [(0,di (digs E9 a)),(1,di (digs E9 b)),(4,.nilS),(5,.bs 7 1 0 (i+1)),(6,.int .i64 (carry E9 a b (i+1):Int)),(7,.int .i64 ((i+1:Nat):Int))]
    [(7,{els:=(lows E9 (a+b) (i+1)).map fI,esz:=1,ety:=3,fro:=0,live:=true,arr:=true})])→
    ∃y:{i:Nat // i≤(digs E9 (a+b)).length∧ ∀j,j<i→(a+b)/E9^j≠0},(digs E9 (a+b)).length+1-y.1<(digs E9 (a+b)).length+1-i∧
     Le s (St.of [(0,di (digs E9 a)),(1,di (digs E9 b)),(4,.nilS),(5,.bs 7 1 0 y.1),(6,.int .i64 (carry E9 a b y.1:Int)),(7,.int .i64 (y.1:Int))]
      [(7,{els:=(lows E9 (a+b) y.1).map fI,esz:=1,ety:=3,fro:=0,live:=true,arr:=true})]):=by
   intro s hc hle;have hne:=Zes E9_2 hc;have hlt:=(Qcn E9_2 _ _).2 hne;exact⟨⟨i+1,hlt,fun j hj=>(Nat.lt_succ_iff_lt_or_eq.1 hj).elim (hmore j) fun h=>h▸hne⟩,by simp only;omega,hle⟩
  by_cases hA:i<(digs E9 a).length
  ·have hA':((i:Int)<((digs E9 a).length:Int))=True:=by simp;omega
   have hga:=Qap E9_2 hA;by_cases hB:i<(digs E9 b).length
   ·have hB':((i:Int)<((digs E9 b).length:Int))=True:=by simp;omega
    have hgb:=Qap E9_2 hB;have w1:=Qcu (a:=carry E9 a b i) (b:=a/E9^i%E9) (by simp only [E9]at*;omega);have w2:=Qcu (a:=carry E9 a b i+a/E9^i%E9) (b:=b/E9^i%E9) (by simp only [E9]at*;omega);have w3:=wrapn (n:=(carry E9 a b i+a/E9^i%E9+b/E9^i%E9)/1000000000) (by simp only [E9]at*;omega);simp -implicitDefEqProofs only [go_sem,seval,di,List.length_map,hA',hB',h0,Qfc,hga,hgb,w1,w2,w3,Qrn,Qro,hll,Qli,hb1,hb2,hwi];refine next _ (.inl hA) (Qak (θ:=[(7,1004)]) rfl ?_ ?_)
    ·simp [Qae,lkp,ren1,ren0,di,hs2]
    ·simp [Qal,lkp,Box.renames,Qdn,hs1]
   ·have hB':((i:Int)<((digs E9 b).length:Int))=False:=by simp;omega
    have hb0:b/E9^i%E9=0:=by rw [Qbf E9_2 (Nat.le_of_not_lt hB),Nat.zero_mod]
    rw [hb0,Nat.add_zero]at hs1 hs2;have w1:=Qcu (a:=carry E9 a b i) (b:=a/E9^i%E9) (by simp only [E9]at*;omega);have w3:=wrapn (n:=(carry E9 a b i+a/E9^i%E9)/1000000000) (by simp only [E9]at*;omega);simp -implicitDefEqProofs only [go_sem,seval,di,List.length_map,hA',hB',h0,Qfc,hga,w1,w3,Qrn,Qro,hll,Qli,hb1,hb2,hwi];refine next _ (.inl hA) (Qak (θ:=[(7,1004)]) rfl ?_ ?_)
    ·simp [Qae,lkp,ren1,ren0,di,hs2]
    ·simp [Qal,lkp,Box.renames,Qdn,hs1]
  ·have hA':((i:Int)<((digs E9 a).length:Int))=False:=by simp;omega
   have ha0:a/E9^i%E9=0:=by rw [Qbf E9_2 (Nat.le_of_not_lt hA),Nat.zero_mod]
   rw [ha0,Nat.add_zero]at hs1 hs2;by_cases hB:i<(digs E9 b).length
   ·have hB':((i:Int)<((digs E9 b).length:Int))=True:=by simp;omega
    have hgb:=Qap E9_2 hB;have w2:=Qcu (a:=carry E9 a b i) (b:=b/E9^i%E9) (by simp only [E9]at*;omega);have w3:=wrapn (n:=(carry E9 a b i+b/E9^i%E9)/1000000000) (by simp only [E9]at*;omega);simp -implicitDefEqProofs only [go_sem,seval,di,List.length_map,hA',hB',h0,Qfc,hgb,w2,w3,Qrn,Qro,hll,Qli,hb1,hb2,hwi];refine next _ (.inr (.inl hB)) (Qak (θ:=[(7,1004)]) rfl ?_ ?_)
    ·simp [Qae,lkp,ren1,ren0,di,hs2]
    ·simp [Qal,lkp,Box.renames,Qdn,hs1]
   ·have hB':((i:Int)<((digs E9 b).length:Int))=False:=by simp;omega
    have hb0:b/E9^i%E9=0:=by rw [Qbf E9_2 (Nat.le_of_not_lt hB),Nat.zero_mod]
    rw [hb0,Nat.add_zero]at hs1 hs2;by_cases hC:0<carry E9 a b i
    ·have hC':((0:Int)<(carry E9 a b i:Int))=True:=by simp;omega
     have w3:=wrapn (n:=carry E9 a b i/1000000000) (by simp only [E9]at*;omega);simp -implicitDefEqProofs only [go_sem,seval,di,List.length_map,hA',hB',hC',w3,Qrn,Qro,hll,Qli,hb1,hb2,hwi];refine next _ (.inr (.inr hC)) (Qak (θ:=[(7,1004)]) rfl ?_ ?_)
     ·simp [Qae,lkp,ren1,ren0,di,hs2]
     ·simp [Qal,lkp,Box.renames,Qdn,hs1]
    ·have hC':((0:Int)<(carry E9 a b i:Int))=False:=by simp;omega
     have hlt:=Zer E9_2 (Nat.le_of_not_lt hA) (Nat.le_of_not_lt hB) (by omega);have hd:=Qne E9_2 hlt hmore;have htk:((lows E9 (a+b) i).map fI).take i=(lows E9 (a+b) i).map fI:=List.take_of_length_le (by simp [hll]);simp -implicitDefEqProofs only [go_sem,seval,di,List.length_map,hA',hB',hC',hll,htk];rw [hd]
end Go.Proofs.YtcaffiaempefjaaGreatDoor

namespace Go.Dg
section
variable {B:Nat}
def cmpN (a b:Nat):Int:=if a<b then -1 else if b<a then 1 else 0
theorem Qra {a b:Nat} (h:a<b):cmpN a b= -1:=by simp [cmpN,h]
theorem Qvx {a b:Nat} (h:b<a):cmpN a b=1:=by simp [cmpN,h];omega
theorem Q5b (a:Nat):cmpN a a=0:=by simp [cmpN]
theorem Qy0 (hB:2≤B) {a b:Nat} (h:(digs B a).length<(digs B b).length):a<b:=by
 have h1:=Qa0 hB a;have h2:=(Qcn hB b _).1 h;have h3:=Nat.div_eq_zero_iff (a:=b) (b:=B^(digs B a).length);have:0<B^(digs B a).length:=Nat.pow_pos (by omega);omega
theorem Qil (hB:0<B) (a i:Nat):a/B^i=B*(a/B^(i+1))+a/B^i%B:=by
 rw [Nat.pow_succ,←Nat.div_div_eq_div_mul];exact(Nat.div_add_mod _ _).symm
theorem Qjh (hB:0<B) {a b i:Nat} (h:a/B^(i+1)=b/B^(i+1)) (hd:a/B^i%B<b/B^i%B):a<b:=by
 have h1:=Qil hB a i;have h2:=Qil hB b i;rw [h]at h1;apply Nat.lt_of_not_le;intro hle;have:=Nat.div_le_div_right (c:=B^i) hle;omega
theorem Qpr (hB:0<B) {a b i:Nat} (h:a/B^(i+1)=b/B^(i+1)) (hd:a/B^i%B=b/B^i%B):a/B^i=b/B^i:=by
 rw [Qil hB a i,Qil hB b i,h,hd]
def bor (B a b i:Nat):Nat:=if a%B^i<b%B^i then 1 else 0
theorem Qrb (a b:Nat):bor B a b 0=0:=by simp [bor,Nat.mod_one]
theorem Qps (a b i:Nat):bor B a b i≤1:=by unfold bor;split<;>omega
theorem Q5c (hB:0<B) {a b:Nat} (h:b≤a) (i:Nat):(a-b)/B^i+b/B^i+bor B a b i=a/B^i:=by
 have hp:0<B^i:=Nat.pow_pos hB;unfold bor;generalize B^i=P at*;have ha:=Nat.div_add_mod a P;have hb:=Nat.div_add_mod b P;have hm1:=Nat.mod_lt a hp;have hm2:=Nat.mod_lt b hp;have hle:b/P≤a/P:=Nat.div_le_div_right h;generalize a/P=x at*;generalize b/P=y at*;generalize a%P=r at*;generalize b%P=s at*;obtain⟨z,rfl⟩:=Nat.exists_eq_add_of_le hle;rw [Nat.mul_add]at ha;split
 ·rename_i hlt;have hz:z≠0:=by rintro rfl;rw [Nat.mul_zero]at ha;omega
  obtain⟨z',rfl⟩:=Nat.exists_eq_succ_of_ne_zero hz;have e:a-b=(P+r-s)+P*z':=by rw [Nat.mul_succ]at ha;omega
  rw [e,Nat.add_mul_div_left _ _ hp,Nat.div_eq_of_lt (by omega)];omega
 ·rename_i hlt;have e:a-b=(r-s)+P*z:=by omega
  rw [e,Nat.add_mul_div_left _ _ hp,Nat.div_eq_of_lt (by omega)];omega
theorem Qrc (hB:2≤B) {a b:Nat} (h:b≤a) (i:Nat):
  (a-b)/B^i%B+b/B^i%B+bor B a b i=a/B^i%B+B*bor B a b (i+1):=by
 have hB0:0<B:=by omega
 have h1:=Q5c hB0 h i;have h2:=Q5c hB0 h (i+1);have e1:=Qil hB0 (a-b) i;have e2:=Qil hB0 b i;have e3:=Qil hB0 a i;have hm:=Nat.mul_add B ((a-b)/B^(i+1)+b/B^(i+1)) (bor B a b (i+1));have hm2:=Nat.mul_add B ((a-b)/B^(i+1)) (b/B^(i+1));rw [h2]at hm;omega
def mix (B V S n m:Nat):List Nat:=(List.range n).map fun j=>if j<m then V/B^j%B else S/B^j%B
theorem Qbm (V S n m:Nat):(mix B V S n m).length=n:=by simp [mix]
theorem Qc4 (V S n m j:Nat) (h:j<n):(mix B V S n m)[j]? =some (if j<m then V/B^j%B else S/B^j%B):=by simp [mix,h]
theorem Qna (hB:0<B) {V W m j:Nat} (h:V%B^m=W%B^m) (hj:j<m):V/B^j%B=W/B^j%B:=by
 have key: ∀n,n/B^j%B=(n%B^m)/B^j%B:=by
  intro n;have e:B^m=B^j*(B*B^(m-j-1)):=by
   rw [←Nat.mul_assoc,←Nat.pow_succ,←Nat.pow_add];congr 1;omega
  rw [e,Nat.mod_mul_right_div_self,Nat.mod_mul_right_mod]
 rw [key V,key W,h]
theorem Qeq (hB:0<B) {V W S n m d:Nat} (hm:m<n) (h:V%B^m=W%B^m) (hd:W/B^m%B=d):(mix B V S n m).set m d=mix B W S n (m+1):=by
 apply List.ext_getElem?;intro j;rw [List.getElem?_set];by_cases hj:j<n
 ·rw [Qc4 _ _ _ _ _ hj,Qc4 _ _ _ _ _ hj,Qbm];by_cases e:m=j
  ·subst e;simp [hj,hd]
  ·simp only [e,if_false];by_cases hlt:j<m
   ·rw [if_pos hlt,if_pos (by omega),Qna hB h hlt]
   ·rw [if_neg hlt,if_neg (by omega)]
 ·rw [List.getElem?_eq_none (by rw [Qbm];omega),List.getElem?_eq_none (by rw [Qbm];omega),Qbm];simp;omega
theorem Qe8 {V S n m:Nat} (hB:0<B) (h:V/B^m=S/B^m):mix B V S n m=lows B V n:=by
 apply List.map_congr_left;intro j _;split
 ·rfl
 ·rename_i hj;obtain⟨k,rfl⟩:=Nat.exists_eq_add_of_le (Nat.le_of_not_lt hj);rw [Nat.pow_add,←Nat.div_div_eq_div_mul,←Nat.div_div_eq_div_mul,h]
theorem Qhv (V S n:Nat):mix B V S n 0=lows B S n:=by simp [mix,lows]
def mulV (B S x i b k:Nat):Nat:=S+x*B^i*(b%B^k)
theorem Qnb (S x i b:Nat):mulV B S x i b 0=S:=by simp [mulV,Nat.mod_one]
theorem Qth (S x i b k:Nat):mulV B S x i b (k+1)=mulV B S x i b k+x*(b/B^k%B)*B^(i+k):=by
 unfold mulV;rw [Nat.pow_succ,Nat.mod_mul,Nat.mul_add,Nat.pow_add];have:x*B^i*(B^k*(b/B^k%B))=x*(b/B^k%B)*(B^i*B^k):=by
  simp only [Nat.mul_assoc,Nat.mul_comm,Nat.mul_left_comm]
 rw [this];omega
def mulC (B S x i b k:Nat):Nat:=mulV B S x i b k/B^(i+k)-S/B^(i+k)
theorem Zpu (S x i b k:Nat):S≤mulV B S x i b k:=Nat.le_add_right _ _
theorem Qml (S x i b k:Nat):mulC B S x i b k+S/B^(i+k)=mulV B S x i b k/B^(i+k):=by
 have:=Nat.div_le_div_right (c:=B^(i+k)) (Zpu (B:=B) S x i b k);unfold mulC;omega
theorem Qnc (S x i b:Nat):mulC B S x i b 0=0:=by simp [mulC,Qnb]
theorem Qrd (hB:0<B) (S x i b k:Nat):
  (S/B^(i+k)%B+mulC B S x i b k+x*(b/B^k%B))%B=mulV B S x i b (k+1)/B^(i+k)%B∧
  (S/B^(i+k)%B+mulC B S x i b k+x*(b/B^k%B))/B=mulC B S x i b (k+1):=by
 have hp:0<B^(i+k):=Nat.pow_pos hB;have h1:=Qml (B:=B) S x i b k;have e1:mulV B S x i b (k+1)/B^(i+k)=(S/B^(i+k)%B+mulC B S x i b k+x*(b/B^k%B))+B*(S/B^(i+k+1)):=by
  rw [Qth,Nat.add_mul_div_right _ _ hp,←h1];have:=Qil hB S (i+k);omega
 constructor
 ·rw [e1,Nat.add_mul_mod_self_left]
 ·have h2:=Qml (B:=B) S x i b (k+1);have e2:mulV B S x i b (k+1)/B^(i+(k+1))=mulV B S x i b (k+1)/B^(i+k)/B:=by
   rw [Nat.div_div_eq_div_mul,←Nat.pow_succ];rfl
  rw [e1,Nat.add_mul_div_left _ _ hB]at e2;have e3:S/B^(i+(k+1))=S/B^(i+k+1):=rfl;omega
theorem Qy1 (S x i b k:Nat):mulV B S x i b k%B^(i+k)=mulV B S x i b (k+1)%B^(i+k):=by
 rw [Qth,Nat.add_mul_mod_self_right]
theorem Qnd (a i b k:Nat) (hk:b<B^k):mulV B (a%B^i*b) (a/B^i%B) i b k=a%B^(i+1)*b:=by
 unfold mulV;rw [Nat.mod_eq_of_lt hk,Nat.pow_succ,Nat.mod_mul,Nat.add_mul];congr 1;rw [Nat.mul_comm (a/B^i%B)]
theorem Q5d (hB:0<B) {S x i b k:Nat} (hx:x<B):mulC B S x i b k<B:=by
 induction k with
 |zero=>rw [Qnc];exact hB
 |succ k ih=>
  rw [←(Qrd hB S x i b k).2,Nat.div_lt_iff_lt_mul hB];have h1:S/B^(i+k)%B<B:=Nat.mod_lt _ hB;have h2:b/B^k%B<B:=Nat.mod_lt _ hB;have h3:x*(b/B^k%B)≤(B-1)*(B-1):=Nat.mul_le_mul (by omega) (by omega);have h4:B*B=(B-1)*(B-1)+2*(B-1)+1:=by
   obtain⟨c,rfl⟩: ∃c,B=c+1:=⟨B-1,by omega⟩;simp only [Nat.add_sub_cancel,Nat.add_mul,Nat.mul_add];omega
  omega
theorem Zeq (hB:0<B) {a i b k:Nat} (hk:b<B^k):mulC B (a%B^i*b) (a/B^i%B) i b (k+1)=0:=by
 unfold mulC;rw [Qnd a i b (k+1) (Nat.lt_of_lt_of_le hk (Nat.pow_le_pow_right hB (Nat.le_succ k)))];have:a%B^(i+1)*b<B^(i+(k+1)):=by
  have h1:=Nat.mod_lt a (Nat.pow_pos (n:=i+1) hB);have e:B^(i+(k+1))=B^(i+1)*B^k:=by rw [←Nat.pow_add];congr 1;omega
  rw [e];rcases Nat.eq_zero_or_pos b with rfl|hb
  ·rw [Nat.mul_zero];exact Nat.mul_pos (Nat.pow_pos hB) (Nat.pow_pos hB)
  ·exact Nat.lt_of_lt_of_le (Nat.mul_lt_mul_of_pos_right h1 hb) (Nat.mul_le_mul_left _ (Nat.le_of_lt hk))
 rw [Nat.div_eq_of_lt this,Nat.zero_sub]
end
end Go.Dg

namespace Go.Proofs.YtcaffiaempefjaaGreatDoor
open Go.Vl Go.RowKit Go.Dg
theorem Qrp (a b:Nat) (ha:(digs E9 a).length≤1000000000):Qaf Tryz.prog 48 [di (digs E9 a),di (digs E9 b)] (.int .i64 (cmpN a b)):=by
 refine Qab (tb:=[]) 41 [.tmp 4] [0,1,4,5,10,15,20,31,40] mixed Tryz.func48 rfl (by kernel_rfl) ?_;by_cases hl:(digs E9 a).length=(digs E9 b).length
 ·have hl':(((digs E9 a).length:Int) != ((digs E9 b).length:Int))=false:=by simp [hl]
  have hw:IntKind.i64.wrap (((digs E9 a).length:Int)-1)=((digs E9 a).length:Int)-1:=Qah (by omega) (by omega);simp -implicitDefEqProofs only [go_sem,seval,di,List.length_map,hl',hw];refine Qat mixed (fun i:{i:Nat // i≤(digs E9 a).length∧a/E9^i=b/E9^i}=>St.of [(0,di (digs E9 a)),(1,di (digs E9 b)),(4,.int .i64 0),(5,.int .i64 ((i.1:Int)-1))] []) (fun i=>i.1)
   ⟨(digs E9 a).length,Nat.le_refl _,by rw [Qbf E9_2 (Nat.le_refl _),hl,Qbf E9_2 (Nat.le_refl _)]⟩ ?_ ?_
  ·exact Qa5 (by simp [Qae,lkp,ren1,ren0,di])
  ·rintro⟨i,hi,he⟩;cases i with
   |zero=>
    have h1:((0:Int)≤((0:Nat):Int)-1)=False:=by simp
    have hab:a=b:=by simpa using he
    subst hab;simp -implicitDefEqProofs only [go_sem,seval,di,h1,Q5b]
   |succ i=>
    have hs:(((i+1:Nat):Int)-1)=(i:Int):=by omega
    have h1:((0:Int)≤(i:Int))=True:=by simp
    have hga:=Qap E9_2 (show i<(digs E9 a).length by omega);have hgb:=Qap E9_2 (show i<(digs E9 b).length by omega);by_cases hlt:a/E9^i%E9<b/E9^i%E9
    ·have h2:(((a/E9^i%E9:Nat):Int)<((b/E9^i%E9:Nat):Int))=True:=by simp only [eq_iff_iff,iff_true];omega
     have hc:=Qra (Qjh (by decide) he hlt);simp -implicitDefEqProofs only [go_sem,seval,di,hs,h1,Qfc,hga,hgb,h2,hc];exact Qac _ _ (by kernel_rfl)
    ·have h2:(((a/E9^i%E9:Nat):Int)<((b/E9^i%E9:Nat):Int))=False:=by simp only [eq_iff_iff,iff_false];omega
     by_cases hgt:b/E9^i%E9<a/E9^i%E9
     ·have h3:(((b/E9^i%E9:Nat):Int)<((a/E9^i%E9:Nat):Int))=True:=by simp only [eq_iff_iff,iff_true];omega
      have hc:=Qvx (Qjh (by decide) he.symm hgt);simp -implicitDefEqProofs only [go_sem,seval,di,hs,h1,Qfc,hga,hgb,h2,h3,hc];exact⟨Qac _ _ (by kernel_rfl),Qac _ _ (by kernel_rfl)⟩
     ·have h3:(((b/E9^i%E9:Nat):Int)<((a/E9^i%E9:Nat):Int))=False:=by simp only [eq_iff_iff,iff_false];omega
      have hw2:IntKind.i64.wrap ((i:Int)-1)=(i:Int)-1:=Qah (by omega) (by omega);simp -implicitDefEqProofs only [go_sem,seval,di,hs,h1,Qfc,hga,hgb,h2,h3,hw2];refine⟨Qac _ _ (by kernel_rfl),Qac _ _ (by kernel_rfl),⟨i,by omega,Qpr (by decide) he (by omega)⟩,by simp,?_⟩;exact Qa5 (by simp [Qae,lkp,ren1,ren0,di])
 ·have hl':(((digs E9 a).length:Int) != ((digs E9 b).length:Int))=true:=by simp;omega
  by_cases hlt:(digs E9 a).length<(digs E9 b).length
  ·have h2:(((digs E9 a).length:Int)<((digs E9 b).length:Int))=True:=by simp;omega
   have hc:=Qra (Qy0 E9_2 hlt);simp -implicitDefEqProofs only [go_sem,seval,di,List.length_map,hl',h2,hc]
  ·have h2:(((digs E9 a).length:Int)<((digs E9 b).length:Int))=False:=by simp;omega
   have hc:=Qvx (Qy0 E9_2 (show(digs E9 b).length<(digs E9 a).length by omega));simp -implicitDefEqProofs only [go_sem,seval,di,List.length_map,hl',h2,hc]
def rI (n:Int):PV:= .agg [.bool (decide (n<0)),di (digs E9 n.natAbs)]
theorem Qgq (neg:Bool) (m:Nat):Qaf Tryz.prog 46 [.bool neg,di (digs E9 m)] (rI (if neg then -(m:Int)else m)):=by
 refine Qab (tb:=[]) 13 [.cell 4 42] [0,1,4] mixed Tryz.func46 rfl (by kernel_rfl) ?_;by_cases hm:m=0
 ·subst hm;cases neg
  ·simp -implicitDefEqProofs only [go_sem,Nat.reduceAdd,Nat.reduceMul,Nat.reduceEqDiff,Nat.reduceLT,Nat.reduceLeDiff,reduceCtorEq,di,rI,Qa3];simp [Qa3]
  ·simp -implicitDefEqProofs only [go_sem,Nat.reduceAdd,Nat.reduceMul,Nat.reduceEqDiff,Nat.reduceLT,Nat.reduceLeDiff,reduceCtorEq,di,rI,Qa3];simp [Qa3]
 ·have h1:((0:Int)<((digs E9 m).length:Int))=True:=by
   have:=mt (Qbp E9_2).1 hm;simp only [eq_iff_iff,iff_true];have:=List.length_pos_iff.2 this;omega
  cases neg
  ·simp -implicitDefEqProofs only [go_sem,Nat.reduceAdd,Nat.reduceMul,Nat.reduceEqDiff,Nat.reduceLT,Nat.reduceLeDiff,reduceCtorEq,di,rI];have: ¬((m:Int)<0):=by omega
   simp [this]
  ·simp -implicitDefEqProofs only [go_sem,Nat.reduceAdd,Nat.reduceMul,Nat.reduceEqDiff,Nat.reduceLT,Nat.reduceLeDiff,reduceCtorEq,di,rI,List.length_map,h1];have: -(m:Int)<0:=by omega
   simp only [this,decide_true,Int.natAbs_neg,Int.natAbs_natCast]
theorem Qrq (a b:Nat) (hba:b≤a) (ha:(digs E9 a).length≤1000000000):Qaf Tryz.prog 49 [di (digs E9 a),di (digs E9 b)] (di (digs E9 (a-b))):=by
 refine Qab (tb:=[]) 41 [.tmp 4] [0,1,4,5,6,7,8,12,24,32] mixed Tryz.func49 rfl (by kernel_rfl) ?_;simp -implicitDefEqProofs only [go_sem,seval,di];refine Qat mixed (fun i:{i:Nat // i≤(digs E9 a).length}=>St.of [(0,di (digs E9 a)),(1,di (digs E9 b)),(4,.nilS),(5,.bs 7 1 0 i.1),(6,.int .i64 (bor E9 a b i.1:Int)),(7,.int .i64 (i.1:Int))]
  [(7,{els:=(lows E9 (a-b) i.1).map fI,esz:=1,ety:=3,fro:=0,live:=true,arr:=true})]) (fun i=>(digs E9 a).length-i.1) ⟨0,Nat.zero_le _⟩ ?_ ?_
 ·refine Qhu 5 7 1 3 rfl rfl rfl (by decide) [(7,7)] rfl ?_ ?_
  ·simp [Qae,lkp,ren1,ren0,di,Qrb]
  ·simp [Qal,lkp,Box.renames,lows]
 ·rintro⟨i,hi⟩;have h0:(0≤(i:Int))=True:=by simp
  have hll:=Qaj (B:=E9) (a-b) i;have hbl:=Qps (B:=E9) a b i;have hbl2:=Qps (B:=E9) a b (i+1);have hst:=Qrc E9_2 hba i;have hda:a/E9^i%E9<E9:=Nat.mod_lt _ (by decide);have hdb:b/E9^i%E9<E9:=Nat.mod_lt _ (by decide);have hdc:(a-b)/E9^i%E9<E9:=Nat.mod_lt _ (by decide);have hb1:((i+1)*8≤140737488355328)=True:=by simp;omega
  have hb2:(i+1≤maxLen)=True:=by simp [maxLen];omega
  have hwi:=Qai (a:=i) (by omega);by_cases hA:i<(digs E9 a).length
  ·have hA':((i:Int)<((digs E9 a).length:Int))=True:=by simp;omega
   have hga:=Qap E9_2 hA;have next: ∀s,Le s (St.of [(0,di (digs E9 a)),(1,di (digs E9 b)),(4,.nilS),(5,.bs 7 1 0 (i+1)),(6,.int .i64 (bor E9 a b (i+1):Int)),(7,.int .i64 ((i+1:Nat):Int))]
     [(7,{els:=(lows E9 (a-b) (i+1)).map fI,esz:=1,ety:=3,fro:=0,live:=true,arr:=true})])→
     ∃y:{i:Nat // i≤(digs E9 a).length},(digs E9 a).length-y.1<(digs E9 a).length-i∧
      Le s (St.of [(0,di (digs E9 a)),(1,di (digs E9 b)),(4,.nilS),(5,.bs 7 1 0 y.1),(6,.int .i64 (bor E9 a b y.1:Int)),(7,.int .i64 (y.1:Int))]
       [(7,{els:=(lows E9 (a-b) y.1).map fI,esz:=1,ety:=3,fro:=0,live:=true,arr:=true})]):=
    fun s hle=>⟨⟨i+1,hA⟩,by simp only;omega,hle⟩
   generalize hx:a/E9^i%E9=x at*;generalize hy:b/E9^i%E9=y at*;have hz:(a-b)/E9^i%E9+y+bor E9 a b i=x+E9*bor E9 a b (i+1):=hst;have w1:IntKind.i64.wrap ((x:Int)-(bor E9 a b i:Int))=(x:Int)-(bor E9 a b i:Int):=Qah (by simp only [E9]at*;omega) (by simp only [E9]at*;omega);have w2:IntKind.i64.wrap ((x:Int)-(bor E9 a b i:Int)-(y:Int))=(x:Int)-(bor E9 a b i:Int)-(y:Int):=Qah (by simp only [E9]at*;omega) (by simp only [E9]at*;omega);have fin: ∀t:Int,t=(x:Int)-(bor E9 a b i:Int)-(y:Int)→(t<0→bor E9 a b (i+1)=1∧t+1000000000=(((a-b)/E9^i%E9:Nat):Int))∧(¬t<0→bor E9 a b (i+1)=0∧t=(((a-b)/E9^i%E9:Nat):Int)):=by
    intro t ht;simp only [E9]at*;constructor
    ·intro h;constructor<;>omega
    ·intro h;constructor<;>omega
   by_cases hB:i<(digs E9 b).length
   ·have hB':((i:Int)<((digs E9 b).length:Int))=True:=by simp;omega
    have hgb:=Qap E9_2 hB;rw [hy]at hgb;obtain⟨f1,f2⟩:=fin _ rfl;by_cases hn:(x:Int)-(bor E9 a b i:Int)-(y:Int)<0
    ·have hn':((x:Int)-(bor E9 a b i:Int)-(y:Int)<0)=True:=by simp only [eq_iff_iff,iff_true];exact hn
     obtain⟨k1,k2⟩:=f1 hn;have w3:IntKind.i64.wrap ((x:Int)-(bor E9 a b i:Int)-(y:Int)+1000000000)=(((a-b)/E9^i%E9:Nat):Int):=by rw [k2];exact wrapn (by simp only [E9]at*;omega)
     simp -implicitDefEqProofs only [go_sem,seval,di,List.length_map,hA',hB',h0,Qfc,hga,hgb,w1,w2,w3,hn',hll,Qli,hb1,hb2,hwi];refine next _ (Qak (θ:=[(7,1203)]) rfl ?_ ?_)
     ·simp [Qae,lkp,ren1,ren0,di,k1]
     ·simp [Qal,lkp,Box.renames,Qdn]
    ·have hn':((x:Int)-(bor E9 a b i:Int)-(y:Int)<0)=False:=by simp only [eq_iff_iff,iff_false];exact hn
     obtain⟨k1,k2⟩:=f2 hn;simp -implicitDefEqProofs only [go_sem,seval,di,List.length_map,hA',hB',h0,Qfc,hga,hgb,w1,w2,hn',hll,Qli,hb1,hb2,hwi];refine next _ (Qak (θ:=[(7,1203)]) rfl ?_ ?_)
     ·simp [Qae,lkp,ren1,ren0,di,k1]
     ·simp [Qal,lkp,Box.renames,Qdn,k2]
   ·have hB':((i:Int)<((digs E9 b).length:Int))=False:=by simp;omega
    have hy0:y=0:=by rw [←hy,Qbf E9_2 (Nat.le_of_not_lt hB),Nat.zero_mod]
    obtain⟨f1,f2⟩:=fin ((x:Int)-(bor E9 a b i:Int)) (by omega);by_cases hn:(x:Int)-(bor E9 a b i:Int)<0
    ·have hn':((x:Int)-(bor E9 a b i:Int)<0)=True:=by simp only [eq_iff_iff,iff_true];exact hn
     obtain⟨k1,k2⟩:=f1 hn;have w3:IntKind.i64.wrap ((x:Int)-(bor E9 a b i:Int)+1000000000)=(((a-b)/E9^i%E9:Nat):Int):=by rw [k2];exact wrapn (by simp only [E9]at*;omega)
     simp -implicitDefEqProofs only [go_sem,seval,di,List.length_map,hA',hB',h0,Qfc,hga,w1,w3,hn',hll,Qli,hb1,hb2,hwi];refine next _ (Qak (θ:=[(7,1203)]) rfl ?_ ?_)
     ·simp [Qae,lkp,ren1,ren0,di,k1]
     ·simp [Qal,lkp,Box.renames,Qdn]
    ·have hn':((x:Int)-(bor E9 a b i:Int)<0)=False:=by simp only [eq_iff_iff,iff_false];exact hn
     obtain⟨k1,k2⟩:=f2 hn;simp -implicitDefEqProofs only [go_sem,seval,di,List.length_map,hA',hB',h0,Qfc,hga,w1,hn',hll,Qli,hb1,hb2,hwi];refine next _ (Qak (θ:=[(7,1203)]) rfl ?_ ?_)
     ·simp [Qae,lkp,ren1,ren0,di,k1]
     ·simp [Qal,lkp,Box.renames,Qdn,k2]
  ·have hA':((i:Int)<((digs E9 a).length:Int))=False:=by simp;omega
   have htk:((lows E9 (a-b) i).map fI).take i=(lows E9 (a-b) i).map fI:=List.take_of_length_le (by simp [hll]);have hlt:a-b<E9^i:=Nat.lt_of_le_of_lt (Nat.sub_le _ _) ((Qam E9_2 a i).1 (by omega));simp -implicitDefEqProofs only [go_sem,seval,di,List.length_map,hA',hll,htk];refine Qag _ _ _ _ _ _ _ _ _ (Qkw (lows E9 (a-b) i) (by rw [hll];simp [maxLen];omega)) ?_;simp -implicitDefEqProofs only [go_sem,seval,di];rw [Qbu E9_2,Nat.mod_eq_of_lt hlt]
end Go.Proofs.YtcaffiaempefjaaGreatDoor
