/-
  OTy, UW, US3, US4, UX, ULD (merged for the claim).
-/
import Derived.Test.YtnohfmdlaajpbaaGreatUV
import Derived.Test.YtnohfmdlaajpbaaGreatProg
import Derived.Test.YtnohfmdlaajpbaaGreatUO
set_option linter.unusedSimpArgs false
set_option linter.unusedVariables false
namespace Go.Proofs.YtnohfmdlaajpbaaGreat
open Go.Vl
theorem mixed:Tryz.prog.follows .mixedOrders=true:=by kernel_rfl
theorem Zow:Tryz.prog.underlying 9=some .string:=by kernel_rfl
theorem Zrh (s:ByteArray):Qa3 Tryz.prog 9 (.str s)=some (.int .i64 s.size):=by simp only [Qa3,Zow]
theorem Qin:Tryz.prog.underlying 22=some (.slice 9):=by kernel_rfl
theorem Zfj (es:List PV):Qa3 Tryz.prog 22 (.slc es)=some (.int .i64 es.length):=by simp only [Qa3,Qin]
theorem Zfk:Qa3 Tryz.prog 22 .nilS=some (.int .i64 0):=by simp only [Qa3,Qin]
theorem Zfl (b e o n:Nat):Qa3 Tryz.prog 22 (.bs b e o n)=some (.int .i64 n):=by simp only [Qa3,Qin]
theorem Tc0:tyOk Tryz.prog 3=true∧Qa8 Tryz.prog 3=false∧(Tryz.prog.info? 3).isSome=true∧Qap Tryz.prog 3=some (1,8)∧Tryz.prog.cellsOf 3=1∧Qar Tryz.prog 3=some (PV.int IntKind.i64 0)∧Tryz.prog.underlying 3=some (.int .i64)∧tyOk Tryz.prog 4=true∧Qa8 Tryz.prog 4=false∧(Tryz.prog.info? 4).isSome=true∧Qap Tryz.prog 4=some (1,1)∧Tryz.prog.cellsOf 4=1∧Qar Tryz.prog 4=some (PV.bool Bool.false)∧Tryz.prog.underlying 4=some .bool∧tyOk Tryz.prog 5=true∧Qa8 Tryz.prog 5=false∧(Tryz.prog.info? 5).isSome=true∧Qap Tryz.prog 5=some (1,1)∧Tryz.prog.cellsOf 5=1∧Qar Tryz.prog 5=some (PV.int IntKind.u8 0)∧Tryz.prog.underlying 5=some (.int .u8)∧tyOk Tryz.prog 9=true∧Qa8 Tryz.prog 9=false∧(Tryz.prog.info? 9).isSome=true∧Qap Tryz.prog 9=some (1,16)∧Tryz.prog.cellsOf 9=1∧Qar Tryz.prog 9=some (PV.str {data:={toList:=[]}})∧tyOk Tryz.prog 22=true∧Qa8 Tryz.prog 22=false∧(Tryz.prog.info? 22).isSome=true∧Qap Tryz.prog 22=some (1,24)∧Tryz.prog.cellsOf 22=1∧Qar Tryz.prog 22=some PV.nilS∧Qbl Tryz.prog 22=some 9∧tyOk Tryz.prog 23=true∧Qa8 Tryz.prog 23=false∧(Tryz.prog.info? 23).isSome=true∧Qap Tryz.prog 23=some (1,24)∧Tryz.prog.cellsOf 23=1∧Qar Tryz.prog 23=some PV.nilS:=by repeat' (first | kernel_rfl | constructor)
theorem Qio:Tryz.prog.underlying 23=some (.slice 52):=by kernel_rfl
theorem Zfp (es:List PV):Qa3 Tryz.prog 23 (.slc es)=some (.int .i64 es.length):=by simp only [Qa3,Qio]
theorem Zfq:Qa3 Tryz.prog 23 .nilS=some (.int .i64 0):=by simp only [Qa3,Qio]
theorem Zfr (b e o n:Nat):Qa3 Tryz.prog 23 (.bs b e o n)=some (.int .i64 n):=by simp only [Qa3,Qio]
theorem Qip:Tryz.prog.underlying 24=some (.slice 89):=by kernel_rfl
theorem Zfv (es:List PV):Qa3 Tryz.prog 24 (.slc es)=some (.int .i64 es.length):=by simp only [Qa3,Qip]
theorem Zfw:Qa3 Tryz.prog 24 .nilS=some (.int .i64 0):=by simp only [Qa3,Qip]
theorem Zfx (b e o n:Nat):Qa3 Tryz.prog 24 (.bs b e o n)=some (.int .i64 n):=by simp only [Qa3,Qip]
theorem Qiq:Tryz.prog.underlying 27=some (.slice 93):=by kernel_rfl
theorem Zf3 (es:List PV):Qa3 Tryz.prog 27 (.slc es)=some (.int .i64 es.length):=by simp only [Qa3,Qiq]
theorem Zf4:Qa3 Tryz.prog 27 .nilS=some (.int .i64 0):=by simp only [Qa3,Qiq]
theorem Zf5 (b e o n:Nat):Qa3 Tryz.prog 27 (.bs b e o n)=some (.int .i64 n):=by simp only [Qa3,Qiq]
theorem Tc1:Qbl Tryz.prog 23=some 52∧tyOk Tryz.prog 24=true∧Qa8 Tryz.prog 24=false∧(Tryz.prog.info? 24).isSome=true∧Qap Tryz.prog 24=some (1,24)∧Tryz.prog.cellsOf 24=1∧Qar Tryz.prog 24=some PV.nilS∧Qbl Tryz.prog 24=some 89∧tyOk Tryz.prog 26=true∧Qa8 Tryz.prog 26=true∧(Tryz.prog.info? 26).isSome=true∧Qap Tryz.prog 26=some (3,72)∧Tryz.prog.cellsOf 26=3∧Qar Tryz.prog 26=some (PV.agg [PV.nilS,PV.nilS,PV.nilS])∧buildable Tryz.prog 26=true∧Qaq Tryz.prog 26 0=some (0,22,1)∧Qae Tryz.prog 26 0=some (0,1)∧Qaq Tryz.prog 26 1=some (1,23,1)∧Qae Tryz.prog 26 1=some (1,1)∧Qaq Tryz.prog 26 2=some (2,24,1)∧Qae Tryz.prog 26 2=some (2,1)∧tyOk Tryz.prog 27=true∧Qa8 Tryz.prog 27=false∧(Tryz.prog.info? 27).isSome=true∧Qap Tryz.prog 27=some (1,24)∧Tryz.prog.cellsOf 27=1∧Qar Tryz.prog 27=some PV.nilS∧Qbl Tryz.prog 27=some 93∧tyOk Tryz.prog 30=true∧Qa8 Tryz.prog 30=false∧(Tryz.prog.info? 30).isSome=true∧Qap Tryz.prog 30=some (1,8)∧Tryz.prog.cellsOf 30=1∧Qar Tryz.prog 30=some PV.nilP∧Qn6 Tryz.prog 30=true∧tyOk Tryz.prog 33=true∧Qa8 Tryz.prog 33=true∧(Tryz.prog.info? 33).isSome=true∧Qap Tryz.prog 33=some (4,32)∧Tryz.prog.cellsOf 33=4:=by repeat' (first | kernel_rfl | constructor)
theorem Qir:Tryz.prog.underlying 38=some (.slice 33):=by kernel_rfl
theorem Zgf (es:List PV):Qa3 Tryz.prog 38 (.slc es)=some (.int .i64 es.length):=by simp only [Qa3,Qir]
theorem Zgg:Qa3 Tryz.prog 38 .nilS=some (.int .i64 0):=by simp only [Qa3,Qir]
theorem Zgh (b e o n:Nat):Qa3 Tryz.prog 38 (.bs b e o n)=some (.int .i64 n):=by simp only [Qa3,Qir]
theorem Qis:Tryz.prog.underlying 40=some (.slice 60):=by kernel_rfl
theorem Zgl (es:List PV):Qa3 Tryz.prog 40 (.slc es)=some (.int .i64 es.length):=by simp only [Qa3,Qis]
theorem Zgm:Qa3 Tryz.prog 40 .nilS=some (.int .i64 0):=by simp only [Qa3,Qis]
theorem Zgn (b e o n:Nat):Qa3 Tryz.prog 40 (.bs b e o n)=some (.int .i64 n):=by simp only [Qa3,Qis]
theorem Tc2:Qar Tryz.prog 33=some (PV.agg [PV.int IntKind.i64 0,PV.int IntKind.i64 0,PV.int IntKind.i64 0,PV.int IntKind.i64 0])∧buildable Tryz.prog 33=true∧Qaq Tryz.prog 33 0=some (0,3,1)∧Qae Tryz.prog 33 0=some (0,1)∧Qaq Tryz.prog 33 1=some (1,3,1)∧Qae Tryz.prog 33 1=some (1,1)∧Qaq Tryz.prog 33 2=some (2,3,1)∧Qae Tryz.prog 33 2=some (2,1)∧Qaq Tryz.prog 33 3=some (3,3,1)∧Qae Tryz.prog 33 3=some (3,1)∧Qb4 Tryz.prog 33=some [1,1,1,1]∧tyOk Tryz.prog 34=true∧Qa8 Tryz.prog 34=false∧(Tryz.prog.info? 34).isSome=true∧Qap Tryz.prog 34=some (1,8)∧Tryz.prog.cellsOf 34=1∧Qar Tryz.prog 34=some (PV.int IntKind.i64 0)∧Tryz.prog.underlying 34=some (.int .i64)∧tyOk Tryz.prog 38=true∧Qa8 Tryz.prog 38=false∧(Tryz.prog.info? 38).isSome=true∧Qap Tryz.prog 38=some (1,24)∧Tryz.prog.cellsOf 38=1∧Qar Tryz.prog 38=some PV.nilS∧Qbl Tryz.prog 38=some 33∧tyOk Tryz.prog 40=true∧Qa8 Tryz.prog 40=false∧(Tryz.prog.info? 40).isSome=true∧Qap Tryz.prog 40=some (1,24)∧Tryz.prog.cellsOf 40=1∧Qar Tryz.prog 40=some PV.nilS∧Qbl Tryz.prog 40=some 60∧tyOk Tryz.prog 44=true∧Qa8 Tryz.prog 44=true∧(Tryz.prog.info? 44).isSome=true∧Qap Tryz.prog 44=some (2,16)∧Tryz.prog.cellsOf 44=2∧Qar Tryz.prog 44=some (PV.agg [PV.int IntKind.i64 0,PV.int IntKind.i64 0])∧buildable Tryz.prog 44=true∧Qaq Tryz.prog 44 0=some (0,3,1):=by repeat' (first | kernel_rfl | constructor)
theorem Tc3:Qae Tryz.prog 44 0=some (0,1)∧Qaq Tryz.prog 44 1=some (1,3,1)∧Qae Tryz.prog 44 1=some (1,1)∧Qb4 Tryz.prog 44=some [1,1]∧tyOk Tryz.prog 50=true∧Qa8 Tryz.prog 50=false∧(Tryz.prog.info? 50).isSome=true∧Qap Tryz.prog 50=some (1,8)∧Tryz.prog.cellsOf 50=1∧Qar Tryz.prog 50=some (PV.int IntKind.i64 0)∧Tryz.prog.underlying 50=some (.int .i64)∧tyOk Tryz.prog 52=true∧Qa8 Tryz.prog 52=true∧(Tryz.prog.info? 52).isSome=true∧Qap Tryz.prog 52=some (3,24)∧Tryz.prog.cellsOf 52=3∧Qar Tryz.prog 52=some (PV.agg [PV.int IntKind.i64 0,PV.int IntKind.i64 0,PV.int IntKind.i64 0])∧buildable Tryz.prog 52=true∧Qaq Tryz.prog 52 0=some (0,3,1)∧Qae Tryz.prog 52 0=some (0,1)∧Qaq Tryz.prog 52 1=some (1,3,1)∧Qae Tryz.prog 52 1=some (1,1)∧Qaq Tryz.prog 52 2=some (2,3,1)∧Qae Tryz.prog 52 2=some (2,1)∧Qb4 Tryz.prog 52=some [1,1,1]∧tyOk Tryz.prog 53=true∧Qa8 Tryz.prog 53=false∧(Tryz.prog.info? 53).isSome=true∧Qap Tryz.prog 53=some (1,8)∧Tryz.prog.cellsOf 53=1∧Qar Tryz.prog 53=some (PV.int IntKind.i64 0)∧Tryz.prog.underlying 53=some (.int .i64)∧tyOk Tryz.prog 54=true∧Qa8 Tryz.prog 54=false∧(Tryz.prog.info? 54).isSome=true∧Qap Tryz.prog 54=some (1,8)∧Tryz.prog.cellsOf 54=1∧Qar Tryz.prog 54=some (PV.int IntKind.i64 0)∧Tryz.prog.underlying 54=some (.int .i64)∧tyOk Tryz.prog 55=true:=by repeat' (first | kernel_rfl | constructor)
theorem Qit:Tryz.prog.underlying 55=some (.slice 5):=by kernel_rfl
theorem Zg1 (es:List PV):Qa3 Tryz.prog 55 (.slc es)=some (.int .i64 es.length):=by simp only [Qa3,Qit]
theorem Zg2:Qa3 Tryz.prog 55 .nilS=some (.int .i64 0):=by simp only [Qa3,Qit]
theorem Zg3 (b e o n:Nat):Qa3 Tryz.prog 55 (.bs b e o n)=some (.int .i64 n):=by simp only [Qa3,Qit]
theorem Tc4:Qa8 Tryz.prog 55=false∧(Tryz.prog.info? 55).isSome=true∧Qap Tryz.prog 55=some (1,24)∧Tryz.prog.cellsOf 55=1∧Qar Tryz.prog 55=some PV.nilS∧Qbl Tryz.prog 55=some 5∧tyOk Tryz.prog 57=true∧Qa8 Tryz.prog 57=true∧(Tryz.prog.info? 57).isSome=true∧Qap Tryz.prog 57=some (5,56)∧Tryz.prog.cellsOf 57=5∧Qar Tryz.prog 57=some (PV.agg [PV.int IntKind.i64 0,PV.int IntKind.i64 0,PV.int IntKind.i64 0,PV.int IntKind.i64 0,PV.nilS])∧buildable Tryz.prog 57=true∧Qaq Tryz.prog 57 0=some (0,54,1)∧Qae Tryz.prog 57 0=some (0,1)∧Qaq Tryz.prog 57 1=some (1,3,1)∧Qae Tryz.prog 57 1=some (1,1)∧Qaq Tryz.prog 57 2=some (2,3,1)∧Qae Tryz.prog 57 2=some (2,1)∧Qaq Tryz.prog 57 3=some (3,3,1)∧Qae Tryz.prog 57 3=some (3,1)∧Qaq Tryz.prog 57 4=some (4,55,1)∧Qae Tryz.prog 57 4=some (4,1)∧tyOk Tryz.prog 58=true∧Qa8 Tryz.prog 58=false∧(Tryz.prog.info? 58).isSome=true∧Qap Tryz.prog 58=some (1,4)∧Tryz.prog.cellsOf 58=1∧Qar Tryz.prog 58=some (PV.int IntKind.u32 0)∧Tryz.prog.underlying 58=some (.int .u32)∧tyOk Tryz.prog 60=true∧Qa8 Tryz.prog 60=true∧(Tryz.prog.info? 60).isSome=true∧Qap Tryz.prog 60=some (13,120)∧Tryz.prog.cellsOf 60=13∧Qar Tryz.prog 60=some (PV.agg [PV.int IntKind.i64 0,PV.int IntKind.i64 0,PV.int IntKind.i64 0,PV.int IntKind.i64 0,PV.int IntKind.i64 0,PV.int IntKind.i64 0,PV.int IntKind.i64 0,PV.int IntKind.i64 0,PV.int IntKind.i64 0,PV.int IntKind.i64 0,PV.int IntKind.i64 0,PV.nilS,PV.int IntKind.u32 0])∧buildable Tryz.prog 60=true∧Qaq Tryz.prog 60 0=some (0,3,1)∧Qae Tryz.prog 60 0=some (0,1)∧Qaq Tryz.prog 60 1=some (1,3,1):=by repeat' (first | kernel_rfl | constructor)
theorem Qiu:Tryz.prog.underlying 61=some (.slice 77):=by kernel_rfl
theorem Zhd (es:List PV):Qa3 Tryz.prog 61 (.slc es)=some (.int .i64 es.length):=by simp only [Qa3,Qiu]
theorem Zhe:Qa3 Tryz.prog 61 .nilS=some (.int .i64 0):=by simp only [Qa3,Qiu]
theorem Zhf (b e o n:Nat):Qa3 Tryz.prog 61 (.bs b e o n)=some (.int .i64 n):=by simp only [Qa3,Qiu]
theorem Tc5:Qae Tryz.prog 60 1=some (1,1)∧Qaq Tryz.prog 60 2=some (2,50,1)∧Qae Tryz.prog 60 2=some (2,1)∧Qaq Tryz.prog 60 3=some (3,52,3)∧Qae Tryz.prog 60 3=some (3,3)∧Qaq Tryz.prog 60 4=some (6,53,1)∧Qae Tryz.prog 60 4=some (6,1)∧Qaq Tryz.prog 60 5=some (7,57,5)∧Qae Tryz.prog 60 5=some (7,5)∧Qaq Tryz.prog 60 6=some (12,58,1)∧Qae Tryz.prog 60 6=some (12,1)∧tyOk Tryz.prog 61=true∧Qa8 Tryz.prog 61=false∧(Tryz.prog.info? 61).isSome=true∧Qap Tryz.prog 61=some (1,24)∧Tryz.prog.cellsOf 61=1∧Qar Tryz.prog 61=some PV.nilS∧Qbl Tryz.prog 61=some 77∧tyOk Tryz.prog 75=true∧Qa8 Tryz.prog 75=false∧(Tryz.prog.info? 75).isSome=true∧Qap Tryz.prog 75=some (1,8)∧Tryz.prog.cellsOf 75=1∧Qar Tryz.prog 75=some (PV.int IntKind.i64 0)∧Tryz.prog.underlying 75=some (.int .i64)∧tyOk Tryz.prog 77=true∧Qa8 Tryz.prog 77=true∧(Tryz.prog.info? 77).isSome=true∧Qap Tryz.prog 77=some (4,32)∧Tryz.prog.cellsOf 77=4∧Qar Tryz.prog 77=some (PV.agg [PV.int IntKind.i64 0,PV.int IntKind.i64 0,PV.int IntKind.i64 0,PV.int IntKind.i64 0])∧buildable Tryz.prog 77=true∧Qaq Tryz.prog 77 0=some (0,75,1)∧Qae Tryz.prog 77 0=some (0,1)∧Qaq Tryz.prog 77 1=some (1,3,1)∧Qae Tryz.prog 77 1=some (1,1)∧Qaq Tryz.prog 77 2=some (2,3,1)∧Qae Tryz.prog 77 2=some (2,1)∧Qaq Tryz.prog 77 3=some (3,3,1)∧Qae Tryz.prog 77 3=some (3,1):=by repeat' (first | kernel_rfl | constructor)
theorem Qiv:Tryz.prog.underlying 80=some (.slice 159):=by kernel_rfl
theorem Zhn (es:List PV):Qa3 Tryz.prog 80 (.slc es)=some (.int .i64 es.length):=by simp only [Qa3,Qiv]
theorem Zho:Qa3 Tryz.prog 80 .nilS=some (.int .i64 0):=by simp only [Qa3,Qiv]
theorem Zhp (b e o n:Nat):Qa3 Tryz.prog 80 (.bs b e o n)=some (.int .i64 n):=by simp only [Qa3,Qiv]
theorem Qiw:Tryz.prog.underlying 87=some (.slice 135):=by kernel_rfl
theorem Zht (es:List PV):Qa3 Tryz.prog 87 (.slc es)=some (.int .i64 es.length):=by simp only [Qa3,Qiw]
theorem Zhu:Qa3 Tryz.prog 87 .nilS=some (.int .i64 0):=by simp only [Qa3,Qiw]
theorem Zhv (b e o n:Nat):Qa3 Tryz.prog 87 (.bs b e o n)=some (.int .i64 n):=by simp only [Qa3,Qiw]
theorem Tc6:Qb4 Tryz.prog 77=some [1,1,1,1]∧tyOk Tryz.prog 80=true∧Qa8 Tryz.prog 80=false∧(Tryz.prog.info? 80).isSome=true∧Qap Tryz.prog 80=some (1,24)∧Tryz.prog.cellsOf 80=1∧Qar Tryz.prog 80=some PV.nilS∧Qbl Tryz.prog 80=some 159∧tyOk Tryz.prog 87=true∧Qa8 Tryz.prog 87=false∧(Tryz.prog.info? 87).isSome=true∧Qap Tryz.prog 87=some (1,24)∧Tryz.prog.cellsOf 87=1∧Qar Tryz.prog 87=some PV.nilS∧Qbl Tryz.prog 87=some 135∧tyOk Tryz.prog 89=true∧Qa8 Tryz.prog 89=true∧(Tryz.prog.info? 89).isSome=true∧Qap Tryz.prog 89=some (3,48)∧Tryz.prog.cellsOf 89=3∧Qar Tryz.prog 89=some (PV.agg [PV.str {data:={toList:=[]}},PV.int IntKind.i64 0,PV.nilS])∧buildable Tryz.prog 89=true∧Qaq Tryz.prog 89 0=some (0,9,1)∧Qae Tryz.prog 89 0=some (0,1)∧Qaq Tryz.prog 89 1=some (1,3,1)∧Qae Tryz.prog 89 1=some (1,1)∧Qaq Tryz.prog 89 2=some (2,87,1)∧Qae Tryz.prog 89 2=some (2,1)∧tyOk Tryz.prog 93=true∧Qa8 Tryz.prog 93=true∧(Tryz.prog.info? 93).isSome=true∧Qap Tryz.prog 93=some (7,56)∧Tryz.prog.cellsOf 93=7∧Qar Tryz.prog 93=some (PV.agg [PV.int IntKind.i64 0,PV.int IntKind.i64 0,PV.int IntKind.i64 0,PV.int IntKind.i64 0,PV.int IntKind.i64 0,PV.int IntKind.i64 0,PV.int IntKind.i64 0])∧buildable Tryz.prog 93=true∧Qaq Tryz.prog 93 0=some (0,3,1)∧Qae Tryz.prog 93 0=some (0,1)∧Qaq Tryz.prog 93 1=some (1,3,1)∧Qae Tryz.prog 93 1=some (1,1)∧Qaq Tryz.prog 93 2=some (2,3,1):=by repeat' (first | kernel_rfl | constructor)
theorem Tc7:Qae Tryz.prog 93 2=some (2,1)∧Qaq Tryz.prog 93 3=some (3,52,3)∧Qae Tryz.prog 93 3=some (3,3)∧Qaq Tryz.prog 93 4=some (6,53,1)∧Qae Tryz.prog 93 4=some (6,1)∧Qb4 Tryz.prog 93=some [1,1,1,1,1,1,1]∧tyOk Tryz.prog 105=true∧Qa8 Tryz.prog 105=false∧(Tryz.prog.info? 105).isSome=true∧Qap Tryz.prog 105=some (1,8)∧Tryz.prog.cellsOf 105=1∧Qar Tryz.prog 105=some PV.nilF∧tyOk Tryz.prog 114=true∧Qa8 Tryz.prog 114=true∧(Tryz.prog.info? 114).isSome=true∧Qap Tryz.prog 114=some (1,24)∧Tryz.prog.cellsOf 114=1∧Qar Tryz.prog 114=some (PV.agg [PV.nilS])∧buildable Tryz.prog 114=true∧Qaq Tryz.prog 114 0=some (0,40,1)∧Qae Tryz.prog 114 0=some (0,1)∧tyOk Tryz.prog 115=true∧Qa8 Tryz.prog 115=false∧(Tryz.prog.info? 115).isSome=true∧Qap Tryz.prog 115=some (1,8)∧Tryz.prog.cellsOf 115=1∧Qar Tryz.prog 115=some PV.nilF∧tyOk Tryz.prog 118=true∧Qa8 Tryz.prog 118=false∧(Tryz.prog.info? 118).isSome=true∧Qap Tryz.prog 118=some (1,8)∧Tryz.prog.cellsOf 118=1∧Qar Tryz.prog 118=some PV.nilF∧tyOk Tryz.prog 122=true∧Qa8 Tryz.prog 122=false∧(Tryz.prog.info? 122).isSome=true∧Qap Tryz.prog 122=some (1,24)∧Tryz.prog.cellsOf 122=1∧Qar Tryz.prog 122=some PV.nilS∧Qbl Tryz.prog 122=some 80:=by repeat' (first | kernel_rfl | constructor)
theorem Qg7:Tryz.prog.underlying 122=some (.slice 80):=by kernel_rfl
theorem Q7y (es:List PV):Qa3 Tryz.prog 122 (.slc es)=some (.int .i64 es.length):=by simp only [Qa3,Qg7]
theorem Q7z:Qa3 Tryz.prog 122 .nilS=some (.int .i64 0):=by simp only [Qa3,Qg7]
theorem Q70 (b e o n:Nat):Qa3 Tryz.prog 122 (.bs b e o n)=some (.int .i64 n):=by simp only [Qa3,Qg7]
theorem Tc8:tyOk Tryz.prog 125=true∧Qa8 Tryz.prog 125=true∧(Tryz.prog.info? 125).isSome=true∧Qap Tryz.prog 125=some (2,24)∧Tryz.prog.cellsOf 125=2∧Qar Tryz.prog 125=some (PV.agg [PV.bool Bool.false,PV.str {data:={toList:=[]}}])∧buildable Tryz.prog 125=true∧Qaq Tryz.prog 125 0=some (0,4,1)∧Qae Tryz.prog 125 0=some (0,1)∧Qaq Tryz.prog 125 1=some (1,9,1)∧Qae Tryz.prog 125 1=some (1,1)∧Qb4 Tryz.prog 125=some [0,2]∧tyOk Tryz.prog 127=true∧Qa8 Tryz.prog 127=true∧(Tryz.prog.info? 127).isSome=true∧Qap Tryz.prog 127=some (8,96)∧Tryz.prog.cellsOf 127=8∧Qar Tryz.prog 127=some (PV.agg [PV.bool Bool.false,PV.str {data:={toList:=[]}},PV.bool Bool.false,PV.str {data:={toList:=[]}},PV.bool Bool.false,PV.str {data:={toList:=[]}},PV.bool Bool.false,PV.str {data:={toList:=[]}}])∧buildable Tryz.prog 127=true∧Qaq Tryz.prog 127 0=some (0,125,2)∧Qae Tryz.prog 127 0=some (0,2)∧Qaq Tryz.prog 127 1=some (2,125,2)∧Qae Tryz.prog 127 1=some (2,2)∧Qaq Tryz.prog 127 2=some (4,125,2)∧Qae Tryz.prog 127 2=some (4,2)∧Qaq Tryz.prog 127 3=some (6,125,2)∧Qae Tryz.prog 127 3=some (6,2)∧Qb4 Tryz.prog 127=some [0,2,0,2,0,2,0,2]∧tyOk Tryz.prog 130=true∧Qa8 Tryz.prog 130=true∧(Tryz.prog.info? 130).isSome=true∧Qap Tryz.prog 130=some (3,24)∧Tryz.prog.cellsOf 130=3∧Qar Tryz.prog 130=some (PV.agg [PV.int IntKind.i64 0,PV.int IntKind.i64 0,PV.int IntKind.i64 0])∧Qfl Tryz.prog 130=some (3,3)∧buildable Tryz.prog 130=true∧Qae Tryz.prog 130 0=some (0,1)∧Qae Tryz.prog 130 1=some (1,1)∧Qae Tryz.prog 130 2=some (2,1)∧Qae Tryz.prog 130 3=some (3,1):=by repeat' (first | kernel_rfl | constructor)
theorem Tc9:Qae Tryz.prog 130 4=some (4,1)∧Qae Tryz.prog 130 5=some (5,1)∧Qae Tryz.prog 130 6=some (6,1)∧Qae Tryz.prog 130 7=some (7,1)∧Qae Tryz.prog 130 8=some (8,1)∧Qae Tryz.prog 130 9=some (9,1)∧Qae Tryz.prog 130 10=some (10,1)∧Qae Tryz.prog 130 11=some (11,1)∧Qae Tryz.prog 130 12=some (12,1)∧Qae Tryz.prog 130 13=some (13,1)∧Qae Tryz.prog 130 14=some (14,1)∧Qae Tryz.prog 130 15=some (15,1)∧Qae Tryz.prog 130 16=some (16,1)∧Qae Tryz.prog 130 17=some (17,1)∧Qae Tryz.prog 130 18=some (18,1)∧Qae Tryz.prog 130 19=some (19,1)∧tyOk Tryz.prog 131=true∧Qa8 Tryz.prog 131=true∧(Tryz.prog.info? 131).isSome=true∧Qap Tryz.prog 131=some (6,72)∧Tryz.prog.cellsOf 131=6∧Qar Tryz.prog 131=some (PV.agg [PV.bool Bool.false,PV.str {data:={toList:=[]}},PV.bool Bool.false,PV.str {data:={toList:=[]}},PV.bool Bool.false,PV.str {data:={toList:=[]}}])∧Qfl Tryz.prog 131=some (3,125)∧buildable Tryz.prog 131=true∧Qae Tryz.prog 131 0=some (0,2)∧Qae Tryz.prog 131 1=some (2,2)∧Qae Tryz.prog 131 2=some (4,2)∧Qae Tryz.prog 131 3=some (6,2)∧Qae Tryz.prog 131 4=some (8,2)∧Qae Tryz.prog 131 5=some (10,2)∧Qae Tryz.prog 131 6=some (12,2)∧Qae Tryz.prog 131 7=some (14,2)∧Qae Tryz.prog 131 8=some (16,2)∧Qae Tryz.prog 131 9=some (18,2)∧Qae Tryz.prog 131 10=some (20,2)∧Qae Tryz.prog 131 11=some (22,2)∧Qae Tryz.prog 131 12=some (24,2)∧Qae Tryz.prog 131 13=some (26,2)∧Qae Tryz.prog 131 14=some (28,2)∧Qae Tryz.prog 131 15=some (30,2):=by repeat' (first | kernel_rfl | constructor)
theorem Qg8:Tryz.prog.underlying 139=some (.slice 3):=by kernel_rfl
theorem Q8y (es:List PV):Qa3 Tryz.prog 139 (.slc es)=some (.int .i64 es.length):=by simp only [Qa3,Qg8]
theorem Q8z:Qa3 Tryz.prog 139 .nilS=some (.int .i64 0):=by simp only [Qa3,Qg8]
theorem Q80 (b e o n:Nat):Qa3 Tryz.prog 139 (.bs b e o n)=some (.int .i64 n):=by simp only [Qa3,Qg8]
theorem Tc10:Qae Tryz.prog 131 16=some (32,2)∧Qae Tryz.prog 131 17=some (34,2)∧Qae Tryz.prog 131 18=some (36,2)∧Qae Tryz.prog 131 19=some (38,2)∧tyOk Tryz.prog 135=true∧Qa8 Tryz.prog 135=true∧(Tryz.prog.info? 135).isSome=true∧Qap Tryz.prog 135=some (6,48)∧Tryz.prog.cellsOf 135=6∧Qar Tryz.prog 135=some (PV.agg [PV.int IntKind.i64 0,PV.int IntKind.i64 0,PV.int IntKind.i64 0,PV.int IntKind.i64 0,PV.int IntKind.i64 0,PV.int IntKind.i64 0])∧buildable Tryz.prog 135=true∧Qaq Tryz.prog 135 0=some (0,52,3)∧Qae Tryz.prog 135 0=some (0,3)∧Qaq Tryz.prog 135 1=some (3,3,1)∧Qae Tryz.prog 135 1=some (3,1)∧Qaq Tryz.prog 135 2=some (4,3,1)∧Qae Tryz.prog 135 2=some (4,1)∧Qaq Tryz.prog 135 3=some (5,3,1)∧Qae Tryz.prog 135 3=some (5,1)∧Qb4 Tryz.prog 135=some [1,1,1,1,1,1]∧tyOk Tryz.prog 139=true∧Qa8 Tryz.prog 139=false∧(Tryz.prog.info? 139).isSome=true∧Qap Tryz.prog 139=some (1,24)∧Tryz.prog.cellsOf 139=1∧Qar Tryz.prog 139=some PV.nilS∧Qbl Tryz.prog 139=some 3∧tyOk Tryz.prog 146=true∧Qa8 Tryz.prog 146=false∧(Tryz.prog.info? 146).isSome=true∧Qap Tryz.prog 146=some (1,8)∧Tryz.prog.cellsOf 146=1∧Qar Tryz.prog 146=some PV.nilF∧tyOk Tryz.prog 148=true∧Qa8 Tryz.prog 148=false∧(Tryz.prog.info? 148).isSome=true∧Qap Tryz.prog 148=some (1,8)∧Tryz.prog.cellsOf 148=1∧Qar Tryz.prog 148=some PV.nilF∧tyOk Tryz.prog 159=true:=by repeat' (first | kernel_rfl | constructor)
theorem Qg9:Tryz.prog.underlying 165=some (.slice 169):=by kernel_rfl
theorem Q9c (es:List PV):Qa3 Tryz.prog 165 (.slc es)=some (.int .i64 es.length):=by simp only [Qa3,Qg9]
theorem Q9d:Qa3 Tryz.prog 165 .nilS=some (.int .i64 0):=by simp only [Qa3,Qg9]
theorem Q9e (b e o n:Nat):Qa3 Tryz.prog 165 (.bs b e o n)=some (.int .i64 n):=by simp only [Qa3,Qg9]
theorem Tc11:Qa8 Tryz.prog 159=true∧(Tryz.prog.info? 159).isSome=true∧Qap Tryz.prog 159=some (6,96)∧Tryz.prog.cellsOf 159=6∧Qar Tryz.prog 159=some (PV.agg [PV.int IntKind.i64 0,PV.int IntKind.i64 0,PV.int IntKind.i64 0,PV.nilS,PV.nilS,PV.nilS])∧buildable Tryz.prog 159=true∧Qaq Tryz.prog 159 0=some (0,3,1)∧Qae Tryz.prog 159 0=some (0,1)∧Qaq Tryz.prog 159 1=some (1,3,1)∧Qae Tryz.prog 159 1=some (1,1)∧Qaq Tryz.prog 159 2=some (2,3,1)∧Qae Tryz.prog 159 2=some (2,1)∧Qaq Tryz.prog 159 3=some (3,139,1)∧Qae Tryz.prog 159 3=some (3,1)∧Qaq Tryz.prog 159 4=some (4,139,1)∧Qae Tryz.prog 159 4=some (4,1)∧Qaq Tryz.prog 159 5=some (5,139,1)∧Qae Tryz.prog 159 5=some (5,1)∧tyOk Tryz.prog 161=true∧Qa8 Tryz.prog 161=false∧(Tryz.prog.info? 161).isSome=true∧Qap Tryz.prog 161=some (1,8)∧Tryz.prog.cellsOf 161=1∧Qar Tryz.prog 161=some PV.nilF∧tyOk Tryz.prog 165=true∧Qa8 Tryz.prog 165=false∧(Tryz.prog.info? 165).isSome=true∧Qap Tryz.prog 165=some (1,24)∧Tryz.prog.cellsOf 165=1∧Qar Tryz.prog 165=some PV.nilS∧Qbl Tryz.prog 165=some 169∧tyOk Tryz.prog 167=true∧Qa8 Tryz.prog 167=true∧(Tryz.prog.info? 167).isSome=true∧Qap Tryz.prog 167=some (2,32)∧Tryz.prog.cellsOf 167=2∧Qar Tryz.prog 167=some (PV.agg [PV.bool Bool.false,PV.nilS])∧buildable Tryz.prog 167=true∧Qaq Tryz.prog 167 0=some (0,4,1)∧Qae Tryz.prog 167 0=some (0,1):=by repeat' (first | kernel_rfl | constructor)
theorem Tc12:Qaq Tryz.prog 167 1=some (1,165,1)∧Qae Tryz.prog 167 1=some (1,1)∧tyOk Tryz.prog 169=true∧Qa8 Tryz.prog 169=false∧(Tryz.prog.info? 169).isSome=true∧Qap Tryz.prog 169=some (1,8)∧Tryz.prog.cellsOf 169=1∧Qar Tryz.prog 169=some (PV.int IntKind.u64 0)∧Tryz.prog.underlying 169=some (.int .u64)∧tyOk Tryz.prog 174=true∧Qa8 Tryz.prog 174=false∧(Tryz.prog.info? 174).isSome=true∧Qap Tryz.prog 174=some (1,8)∧Tryz.prog.cellsOf 174=1∧Qar Tryz.prog 174=some PV.nilM∧tyOk Tryz.prog 175=true∧Qa8 Tryz.prog 175=false∧(Tryz.prog.info? 175).isSome=true∧Qap Tryz.prog 175=some (1,8)∧Tryz.prog.cellsOf 175=1∧Qar Tryz.prog 175=some PV.nilM∧tyOk Tryz.prog 187=true∧Qa8 Tryz.prog 187=true∧(Tryz.prog.info? 187).isSome=true∧Qap Tryz.prog 187=some (3,24)∧Tryz.prog.cellsOf 187=3∧Qar Tryz.prog 187=some (PV.agg [PV.int IntKind.i64 0,PV.int IntKind.i64 0,PV.int IntKind.i64 0])∧Qfl Tryz.prog 187=some (3,53)∧buildable Tryz.prog 187=true∧Qae Tryz.prog 187 0=some (0,1)∧Qae Tryz.prog 187 1=some (1,1)∧Qae Tryz.prog 187 2=some (2,1)∧Qae Tryz.prog 187 3=some (3,1)∧Qae Tryz.prog 187 4=some (4,1)∧Qae Tryz.prog 187 5=some (5,1)∧Qae Tryz.prog 187 6=some (6,1)∧Qae Tryz.prog 187 7=some (7,1)∧Qae Tryz.prog 187 8=some (8,1)∧Qae Tryz.prog 187 9=some (9,1)∧Qae Tryz.prog 187 10=some (10,1):=by repeat' (first | kernel_rfl | constructor)
theorem Qha:Tryz.prog.underlying 190=some (.slice 53):=by kernel_rfl
theorem Q94 (es:List PV):Qa3 Tryz.prog 190 (.slc es)=some (.int .i64 es.length):=by simp only [Qa3,Qha]
theorem Q95:Qa3 Tryz.prog 190 .nilS=some (.int .i64 0):=by simp only [Qa3,Qha]
theorem Q96 (b e o n:Nat):Qa3 Tryz.prog 190 (.bs b e o n)=some (.int .i64 n):=by simp only [Qa3,Qha]
theorem Tc13:Qae Tryz.prog 187 11=some (11,1)∧Qae Tryz.prog 187 12=some (12,1)∧Qae Tryz.prog 187 13=some (13,1)∧Qae Tryz.prog 187 14=some (14,1)∧Qae Tryz.prog 187 15=some (15,1)∧Qae Tryz.prog 187 16=some (16,1)∧Qae Tryz.prog 187 17=some (17,1)∧Qae Tryz.prog 187 18=some (18,1)∧Qae Tryz.prog 187 19=some (19,1)∧tyOk Tryz.prog 188=true∧Qa8 Tryz.prog 188=false∧(Tryz.prog.info? 188).isSome=true∧Qap Tryz.prog 188=some (1,8)∧Tryz.prog.cellsOf 188=1∧Qar Tryz.prog 188=some PV.nilM∧tyOk Tryz.prog 190=true∧Qa8 Tryz.prog 190=false∧(Tryz.prog.info? 190).isSome=true∧Qap Tryz.prog 190=some (1,24)∧Tryz.prog.cellsOf 190=1∧Qar Tryz.prog 190=some PV.nilS∧Qbl Tryz.prog 190=some 53∧tyOk Tryz.prog 192=true∧Qa8 Tryz.prog 192=false∧(Tryz.prog.info? 192).isSome=true∧Qap Tryz.prog 192=some (1,8)∧Tryz.prog.cellsOf 192=1∧Qar Tryz.prog 192=some (PV.int IntKind.u64 0)∧Tryz.prog.underlying 192=some (.int .u64)∧tyOk Tryz.prog 195=true∧Qa8 Tryz.prog 195=true∧(Tryz.prog.info? 195).isSome=true∧Qap Tryz.prog 195=some (3,72)∧Tryz.prog.cellsOf 195=3∧Qar Tryz.prog 195=some (PV.agg [PV.nilS,PV.nilS,PV.nilS])∧Qfl Tryz.prog 195=some (3,139)∧buildable Tryz.prog 195=true∧Qae Tryz.prog 195 0=some (0,1)∧Qae Tryz.prog 195 1=some (1,1)∧Qae Tryz.prog 195 2=some (2,1):=by repeat' (first | kernel_rfl | constructor)
theorem Tc14:Qae Tryz.prog 195 3=some (3,1)∧Qae Tryz.prog 195 4=some (4,1)∧Qae Tryz.prog 195 5=some (5,1)∧Qae Tryz.prog 195 6=some (6,1)∧Qae Tryz.prog 195 7=some (7,1)∧Qae Tryz.prog 195 8=some (8,1)∧Qae Tryz.prog 195 9=some (9,1)∧Qae Tryz.prog 195 10=some (10,1)∧Qae Tryz.prog 195 11=some (11,1)∧Qae Tryz.prog 195 12=some (12,1)∧Qae Tryz.prog 195 13=some (13,1)∧Qae Tryz.prog 195 14=some (14,1)∧Qae Tryz.prog 195 15=some (15,1)∧Qae Tryz.prog 195 16=some (16,1)∧Qae Tryz.prog 195 17=some (17,1)∧Qae Tryz.prog 195 18=some (18,1)∧Qae Tryz.prog 195 19=some (19,1)∧tyOk Tryz.prog 206=true∧Qa8 Tryz.prog 206=true∧(Tryz.prog.info? 206).isSome=true∧Qap Tryz.prog 206=some (2,2)∧Tryz.prog.cellsOf 206=2∧Qar Tryz.prog 206=some (PV.agg [PV.int IntKind.u8 0,PV.int IntKind.u8 0])∧Qfl Tryz.prog 206=some (2,5)∧buildable Tryz.prog 206=true∧Qae Tryz.prog 206 0=some (0,1)∧Qae Tryz.prog 206 1=some (1,1)∧Qae Tryz.prog 206 2=some (2,1)∧Qae Tryz.prog 206 3=some (3,1)∧Qae Tryz.prog 206 4=some (4,1)∧Qae Tryz.prog 206 5=some (5,1)∧Qae Tryz.prog 206 6=some (6,1)∧Qae Tryz.prog 206 7=some (7,1)∧Qae Tryz.prog 206 8=some (8,1)∧Qae Tryz.prog 206 9=some (9,1)∧Qae Tryz.prog 206 10=some (10,1)∧Qae Tryz.prog 206 11=some (11,1)∧Qae Tryz.prog 206 12=some (12,1)∧Qae Tryz.prog 206 13=some (13,1)∧Qae Tryz.prog 206 14=some (14,1):=by repeat' (first | kernel_rfl | constructor)
theorem Qhb:Tryz.prog.underlying 210=some (.slice 55):=by kernel_rfl
theorem Za0 (es:List PV):Qa3 Tryz.prog 210 (.slc es)=some (.int .i64 es.length):=by simp only [Qa3,Qhb]
theorem Za1:Qa3 Tryz.prog 210 .nilS=some (.int .i64 0):=by simp only [Qa3,Qhb]
theorem Za2 (b e o n:Nat):Qa3 Tryz.prog 210 (.bs b e o n)=some (.int .i64 n):=by simp only [Qa3,Qhb]
theorem Tc15:Qae Tryz.prog 206 15=some (15,1)∧Qae Tryz.prog 206 16=some (16,1)∧Qae Tryz.prog 206 17=some (17,1)∧Qae Tryz.prog 206 18=some (18,1)∧Qae Tryz.prog 206 19=some (19,1)∧tyOk Tryz.prog 210=true∧Qa8 Tryz.prog 210=false∧(Tryz.prog.info? 210).isSome=true∧Qap Tryz.prog 210=some (1,24)∧Tryz.prog.cellsOf 210=1∧Qar Tryz.prog 210=some PV.nilS∧Qbl Tryz.prog 210=some 55∧tyOk Tryz.prog 227=true∧Qa8 Tryz.prog 227=false∧(Tryz.prog.info? 227).isSome=true∧Qap Tryz.prog 227=some (1,2)∧Tryz.prog.cellsOf 227=1∧Qar Tryz.prog 227=some (PV.int IntKind.u16 0)∧Tryz.prog.underlying 227=some (.int .u16)∧tyOk Tryz.prog 237=true∧Qa8 Tryz.prog 237=false∧(Tryz.prog.info? 237).isSome=true∧Qap Tryz.prog 237=some (1,8)∧Tryz.prog.cellsOf 237=1∧Qar Tryz.prog 237=some (PV.int IntKind.i64 0)∧Tryz.prog.underlying 237=some (.int .i64)∧tyOk Tryz.prog 240=true∧Qa8 Tryz.prog 240=true∧(Tryz.prog.info? 240).isSome=true∧Qap Tryz.prog 240=some (6,48)∧Tryz.prog.cellsOf 240=6∧Qar Tryz.prog 240=some (PV.agg [PV.int IntKind.i64 0,PV.int IntKind.i64 0,PV.int IntKind.i64 0,PV.int IntKind.i64 0,PV.int IntKind.i64 0,PV.int IntKind.i64 0])∧Qfl Tryz.prog 240=some (6,3)∧buildable Tryz.prog 240=true∧Qae Tryz.prog 240 0=some (0,1)∧Qae Tryz.prog 240 1=some (1,1)∧Qae Tryz.prog 240 2=some (2,1)∧Qae Tryz.prog 240 3=some (3,1)∧Qae Tryz.prog 240 4=some (4,1)∧Qae Tryz.prog 240 5=some (5,1):=by repeat' (first | kernel_rfl | constructor)
theorem Tc16:Qae Tryz.prog 240 6=some (6,1)∧Qae Tryz.prog 240 7=some (7,1)∧Qae Tryz.prog 240 8=some (8,1)∧Qae Tryz.prog 240 9=some (9,1)∧Qae Tryz.prog 240 10=some (10,1)∧Qae Tryz.prog 240 11=some (11,1)∧Qae Tryz.prog 240 12=some (12,1)∧Qae Tryz.prog 240 13=some (13,1)∧Qae Tryz.prog 240 14=some (14,1)∧Qae Tryz.prog 240 15=some (15,1)∧Qae Tryz.prog 240 16=some (16,1)∧Qae Tryz.prog 240 17=some (17,1)∧Qae Tryz.prog 240 18=some (18,1)∧Qae Tryz.prog 240 19=some (19,1)∧tyOk Tryz.prog 241=true∧Qa8 Tryz.prog 241=true∧(Tryz.prog.info? 241).isSome=true∧Qap Tryz.prog 241=some (36,288)∧Tryz.prog.cellsOf 241=36∧Qar Tryz.prog 241=some (PV.agg [PV.int IntKind.i64 0,PV.int IntKind.i64 0,PV.int IntKind.i64 0,PV.int IntKind.i64 0,PV.int IntKind.i64 0,PV.int IntKind.i64 0,PV.int IntKind.i64 0,PV.int IntKind.i64 0,PV.int IntKind.i64 0,PV.int IntKind.i64 0,PV.int IntKind.i64 0,PV.int IntKind.i64 0,PV.int IntKind.i64 0,PV.int IntKind.i64 0,PV.int IntKind.i64 0,PV.int IntKind.i64 0,PV.int IntKind.i64 0,PV.int IntKind.i64 0,PV.int IntKind.i64 0,PV.int IntKind.i64 0,PV.int IntKind.i64 0,PV.int IntKind.i64 0,PV.int IntKind.i64 0,PV.int IntKind.i64 0,PV.int IntKind.i64 0,PV.int IntKind.i64 0,PV.int IntKind.i64 0,PV.int IntKind.i64 0,PV.int IntKind.i64 0,PV.int IntKind.i64 0,PV.int IntKind.i64 0,PV.int IntKind.i64 0,PV.int IntKind.i64 0,PV.int IntKind.i64 0,PV.int IntKind.i64 0,PV.int IntKind.i64 0])∧Qfl Tryz.prog 241=some (6,240)∧buildable Tryz.prog 241=true∧Qae Tryz.prog 241 0=some (0,6)∧Qae Tryz.prog 241 1=some (6,6)∧Qae Tryz.prog 241 2=some (12,6)∧Qae Tryz.prog 241 3=some (18,6)∧Qae Tryz.prog 241 4=some (24,6)∧Qae Tryz.prog 241 5=some (30,6)∧Qae Tryz.prog 241 6=some (36,6)∧Qae Tryz.prog 241 7=some (42,6)∧Qae Tryz.prog 241 8=some (48,6)∧Qae Tryz.prog 241 9=some (54,6)∧Qae Tryz.prog 241 10=some (60,6)∧Qae Tryz.prog 241 11=some (66,6)∧Qae Tryz.prog 241 12=some (72,6)∧Qae Tryz.prog 241 13=some (78,6)∧Qae Tryz.prog 241 14=some (84,6)∧Qae Tryz.prog 241 15=some (90,6)∧Qae Tryz.prog 241 16=some (96,6)∧Qae Tryz.prog 241 17=some (102,6):=by repeat' (first | kernel_rfl | constructor)
theorem Tc17:Qae Tryz.prog 241 18=some (108,6)∧Qae Tryz.prog 241 19=some (114,6)∧tyOk Tryz.prog 245=true∧Qa8 Tryz.prog 245=false∧(Tryz.prog.info? 245).isSome=true∧Qap Tryz.prog 245=some (1,16)∧Tryz.prog.cellsOf 245=1∧Qar Tryz.prog 245=some PV.nilI∧tyOk Tryz.prog 252=true∧Qa8 Tryz.prog 252=false∧(Tryz.prog.info? 252).isSome=true∧Qap Tryz.prog 252=some (1,8)∧Tryz.prog.cellsOf 252=1∧Qar Tryz.prog 252=some PV.nilM:=by repeat' (first | kernel_rfl | constructor)
attribute [go_sem] Zow Zrh Qin Zfj Zfk Zfl Qio Zfp Zfq Zfr Qip Zfv Zfw Zfx Qiq Zf3 Zf4 Zf5 Qir Zgf Zgg Zgh Qis Zgl Zgm Zgn Qit Zg1 Zg2 Zg3 Qiu Zhd Zhe Zhf Qiv Zhn Zho Zhp Qiw Zht Zhu Zhv Qg7 Q7y Q7z
attribute [go_sem] Q70 Qg8 Q8y Q8z Q80 Qg9 Q9c Q9d Q9e Qha Q94 Q95 Q96 Qhb Za0 Za1 Za2 Tc0 Tc1 Tc2 Tc3 Tc4 Tc5 Tc6 Tc7 Tc8 Tc9 Tc10 Tc11 Tc12 Tc13 Tc14 Tc15 Tc16 Tc17
end Go.Proofs.YtnohfmdlaajpbaaGreat

namespace Go.Vl
open Go.RowKit
theorem Z03 (P:Program) (t:TypeId) (xs ys:List PV):Qbp .eql t P (.agg xs) (.agg ys)=match Qb4 P t with
  |some sh=>match Qat sh xs ys with
   |some b=>some (.bool b)
   |none=>none
  |none=>none:=by
 unfold Qbp;cases Qb4 P t with
 |none=>rfl
 |some sh=>simp only;cases Qat sh xs ys<;>rfl
theorem Z04 (P:Program) (t:TypeId) (xs ys:List PV):Qbp .neq t P (.agg xs) (.agg ys)=match Qb4 P t with
  |some sh=>match Qat sh xs ys with
   |some b=>some (.bool !b)
   |none=>none
  |none=>none:=by
 unfold Qbp;cases Qb4 P t with
 |none=>rfl
 |some sh=>simp only;cases Qat sh xs ys<;>rfl
attribute [go_sem] Z03 Z04
variable {P:Program} {tb:Tab} {nt:Nat} {ks:List Nat} {ops:Array Oper} {base i:Nat} {rest:List Oper} {accs:List Acc} {draw:Bool} {k:List It} {Q:Exit→St→Prop} {st:St}
theorem Qaa {dst:Option Tmp} {f f':FuncId} {args args':List PV} {es:List Eff} {l:Acc} {r:PV} (hs:Qaf P f' args' r) (hf:f'=f) (ha:args'=args)
  (h:gops P tb nt ks ops base (i+1) rest (l::accs) draw k Q ((Qan (if Qhs r then []else es) st).put dst r)):gcall P tb nt ks f args es l ops base i dst rest accs draw k Q st:=by
 subst hf;subst ha;exact⟨r,hs,h⟩
end Go.Vl

namespace Go.Vl
open Go.RowKit
variable {P:Program} {tb:Tab} {nt:Nat} {ks:List Nat} {ops:Array Oper} {base i:Nat} {rest:List Oper} {accs:List Acc} {draw:Bool} {k:List It} {Q:Exit→St→Prop} {st:St}
theorem Qai {dst:Option Tmp} {f f':FuncId} {args args':List PV} {bxs bxsA:List (Nat×Box)} {es:List Eff} {θ ν:List (Nat×Nat)} {l:Acc} {r:PV} {bxs':List (Nat×Box)} (hs:Qbv P f' args' bxsA r bxs') (hf:f'=f) (ha:args'=args) (hb:bxsA=bxs)
  (h:gland P tb nt ks (land θ ν bxs' r) (Qj3 r bxs') es l ops base i dst rest accs draw k Q st):Zdt P tb nt ks f args bxs es θ ν l ops base i dst rest accs draw k Q st:=by
 subst hf;subst ha;subst hb;exact Qcb _ _ _ _ _ _ _ _ _ hs h
end Go.Vl

namespace Go.Vl
open Go.RowKit
mutual
def Vgo (P:Program) (nt:Nat):List It→(Exit→St→Prop)→St→Prop
 | [],Q,st=>Q .normal st
 | .blk _::k,Q,st=>Vgo P nt k Q st
 | .again J::_,_,st=>J st
 | .code c::k,Q,st=>Vwp P nt c (fun e s=>Vleave P nt k Q e s) st
def Vleave (P:Program) (nt:Nat):List It→(Exit→St→Prop)→Exit→St→Prop
 | [],Q,e,st=>Q e st
 | .blk j::k,Q,e,st=>match e with
  | .exit i=>if i=j then Vgo P nt k Q st else Vleave P nt k Q (.exit i) st
  | .normal=>Vgo P nt k Q st
  |e=>Vleave P nt k Q e st
 | .again J::k,Q,e,st=>match e with
  | .normal=>J st
  |e=>Vleave P nt k Q e st
 | .code c::k,Q,e,st=>match e with
  | .normal=>Vwp P nt c (fun e s=>Vleave P nt k Q e s) st
  |e=>Vleave P nt k Q e st
end
section
variable {P:Program} {tb:Tab} {nt:Nat} {ks:List Nat} {Q:Exit→St→Prop}
theorem Qlv (hm:P.follows .mixedOrders=true): ∀(k:List It),(∀st,go P tb nt ks k Q st→Vgo P nt k Q st)∧ ∀e st,gleave P tb nt ks k Q e st→Vleave P nt k Q e st
 | []=>⟨fun st h=>by simpa only [go,Vgo]using h,fun e st h=>by simpa only [gleave,Vleave]using h⟩
 | .blk j::k=>by
  obtain⟨h1,h2⟩:=Qlv hm k;refine⟨fun st h=> ?_,fun e st h=> ?_⟩
  ·simp only [go]at h;simp only [Vgo];exact h1 st h
  ·cases e with
   |exit i=>
    simp only [gleave]at h;simp only [Vleave];split at h
    ·rename_i e;rw [if_pos e];exact h1 st h
    ·rename_i e;rw [if_neg e];exact h2 _ st h
   |normal=>simp only [gleave]at h;simp only [Vleave];exact h1 st h
   |_=>simp only [gleave]at h;simp only [Vleave];exact h2 _ st h
 | .again J::k=>by
  obtain⟨h1,h2⟩:=Qlv hm k;refine⟨fun st h=>by simpa only [go,Vgo]using h,fun e st h=> ?_⟩;cases e with
  |normal=>simpa only [gleave,Vleave]using h
  |_=>simp only [gleave]at h;simp only [Vleave];exact h2 _ st h
 | .code c::k=>by
  obtain⟨h1,h2⟩:=Qlv hm k;have key: ∀st,vx P tb nt ks c (fun e s=>gleave P tb nt ks k Q e s) st→Vwp P nt c (fun e s=>Vleave P nt k Q e s) st:=fun st h=>Qdt (Qb5 hm c _ _ h) fun e s q=>h2 e s q;refine⟨fun st h=> ?_,fun e st h=> ?_⟩
  ·simp only [go]at h;simp only [Vgo];exact key st h
  ·cases e with
   |normal=>simp only [gleave]at h;simp only [Vleave];exact key st h
   |_=>simp only [gleave]at h;simp only [Vleave];exact h2 _ st h
theorem v_go (hm:P.follows .mixedOrders=true) {k:List It} {st:St} (h:go P tb nt ks k Q st):Vgo P nt k Q st:=(Qlv hm k).1 st h
def codes (L:List Code) (k:List It):List It:=L.foldr (fun c k=> .code c::k) k
theorem Zdv {st1:St} {c:Code} {k:List It} (h2:Vgo P nt (.code c::k) Q st1): ∀(L:List Code),(∀st,Vgo P nt (codes L (.again (fun s=>Le s st1):: .code c::k)) Q st→Vgo P nt (codes L (.code c::k)) Q st)∧
  ∀e st,Vleave P nt (codes L (.again (fun s=>Le s st1):: .code c::k)) Q e st→Vleave P nt (codes L (.code c::k)) Q e st
 | []=>by
  have base: ∀st,Le st st1→Vgo P nt (.code c::k) Q st:=fun st h=>by
   simp only [Vgo]at h2 ⊢;exact Zo5 h2 h
  refine⟨fun st h=>base st (by simpa only [codes,List.foldr,Vgo]using h),fun e st h=> ?_⟩;cases e with
  |normal=>
   have:=base st (by simpa only [codes,List.foldr,Vleave]using h);simp only [codes,List.foldr,Vleave];simpa only [Vgo]using this
  |_=>simpa only [codes,List.foldr,Vleave]using h
 |d::L=>by
  obtain⟨h3,h4⟩:=Zdv h2 L;refine⟨fun st h=> ?_,fun e st h=> ?_⟩
  ·simp only [codes,List.foldr,Vgo]at h ⊢;exact Qdt h fun e s q=>h4 e s q
  ·cases e with
   |normal=>
    simp only [codes,List.foldr,Vleave]at h ⊢;exact Qdt h fun e s q=>h4 e s q
   |_=>simp only [codes,List.foldr,Vleave]at h ⊢;exact h4 _ _ h
theorem Z05 (hm:P.follows .mixedOrders=true) (tb:Tab) (ks:List Nat) {st st1:St} (L:List Code) {c:Code} {k:List It} (h1:go P tb nt ks (codes L (.again (fun s=>Le s st1):: .code c::k)) Q st) (h2:Vgo P nt (.code c::k) Q st1):
  Vgo P nt (codes L (.code c::k)) Q st:=(Zdv h2 L).1 st (v_go hm h1)
def Qcj:Code→List Code
 | .seq a b=>a::Qcj b
 |c=>[c]
theorem Zdw {k:List It}: ∀(c:Code),(∀st,Vgo P nt (codes (Qcj c) k) Q st→Vgo P nt (.code c::k) Q st)∧ ∀e st,Vleave P nt (codes (Qcj c) k) Q e st→Vleave P nt (.code c::k) Q e st
 | .seq a b=>by
  obtain⟨h1,h2⟩:=Zdw (k:=k) b;have key: ∀st,Vwp P nt a (fun e s=>Vleave P nt (codes (Qcj b) k) Q e s) st→Vwp P nt (.seq a b) (fun e s=>Vleave P nt k Q e s) st:=fun st h=>Zc7 (Qdt h fun e s q=>by
   have q:=h2 e s q;cases e with
   |normal=>simpa only [Vleave,vthen]using q
   |_=>simpa only [Vleave,vthen]using q)
  refine⟨fun st h=> ?_,fun e st h=> ?_⟩
  ·simp only [Qcj,codes,List.foldr,Vgo]at h ⊢;exact key st h
  ·cases e with
   |normal=>simp only [Qcj,codes,List.foldr,Vleave]at h ⊢;exact key st h
   |_=>
    simp only [Qcj,codes,List.foldr,Vleave]at h ⊢;have:=h2 _ _ h;simpa only [Vleave]using this
 | .skip| .label _| .exit _| .ret| .region _ _ _| .cond _ _ _| .block _ _| .loop _| .rangeFunc _ _ _ _| .scope _| .goto _| .refuse _=>⟨fun _ h=>h,fun _ _ h=>h⟩
theorem Z06 {k:List It} {c:Code} {st:St} (h:Vgo P nt (codes (Qcj c) k) Q st):Vgo P nt (.code c::k) Q st:=(Zdw c).1 st h
theorem Qua (k:List It): ∀(A B:List Code),codes (A++B) k=codes A (codes B k)
 | [],_=>rfl
 |a::A,B=>by simp only [List.cons_append,codes,List.foldr];rw [←codes,Qua k A B];rfl
theorem Qcy (hm:P.follows .mixedOrders=true) (tb:Tab) (ks:List Nat) {C:List Code} (n:Nat) (hn:Nat.blt n C.length=true) {st:St} (st1:St)
  (h1:go P tb nt ks (codes (C.take n) (.again (fun s=>Le s st1)::codes (C.drop n) [])) Q st) (h2:Vgo P nt (codes (C.drop n) []) Q st1):Vgo P nt (codes C []) Q st:=by
 have hn:n<C.length:=by rw [Nat.blt_eq]at hn;exact hn
 have e:C.drop n=C[n]::C.drop (n+1):=List.drop_eq_getElem_cons hn;have e2:codes C []=codes (C.take n) (.code C[n]::codes (C.drop (n+1)) []):=by
  have:=Qua [] (C.take n) (C.drop n);rw [List.take_append_drop]at this;rw [this,e];rfl
 rw [e2];have e3:codes (C.drop n) []= .code C[n]::codes (C.drop (n+1)) []:=by rw [e];rfl
 rw [e3]at h1 h2;exact Z05 hm tb ks _ h1 h2
theorem Qf2 {f:FuncId} {fn:Func} {c:Code} {args:List PV} {r:PV} (nt:Nat) (rs:List ResultVar) (hf:P.funcs[f]? =some fn) (hb:fn.body=some c)
  (hc:callable P f=true) (hnt:fn.ntmps=nt) (hrs:fn.results.toList=rs) (hn:Nat.ble args.length nt=true)
  (h:Vgo P nt (codes (Qcj c) []) (vret P rs (· =r)) (St.of (Qcf 0 args) [])):Qaf P f args r:=
 Qzf nt rs hf hb hc hnt hrs hn (by
  have h:=Z06 h;simp only [Vgo,Vleave]at h;exact h)
end
def Box.renD (θ:List (Nat×Nat)) (B' B:Box):Prop:=
 Box.renames θ B' B∨(B'.esz=B.esz∧B'.ety=B.ety∧B'.fro=B.fro∧B'.live=B.live∧(B'.arr,B'.mp)=(B.arr,B.mp)∧B'.arr=false∧Qhn θ B'.els=some B.els∧(B'.els.all fun v=>Qa4 v.cells)=true)
theorem Box.renD.parts {θ:List (Nat×Nat)} {B' B:Box} (h:Box.renD θ B' B):B'.esz=B.esz∧B'.ety=B.ety∧B'.fro=B.fro∧B'.live=B.live∧(B'.arr,B'.mp)=(B.arr,B.mp)∧
  ((B'.arr=true∧B.els=B'.els)∨(B'.arr=false∧ ∃v v',B'.els=[v']∧B.els=[v]∧ren1 θ v'=some v∧Qa4 v'.cells=true)∨(B'.arr=false∧Qhn θ B'.els=some B.els∧(B'.els.all fun v=>Qa4 v.cells)=true)):=by
 rcases h with⟨a,b,c,d,e,f|f⟩|⟨a,b,c,d,e,f,g,h⟩
 ·exact⟨a,b,c,d,e,.inl f⟩
 ·exact⟨a,b,c,d,e,.inr (.inl f)⟩
 ·exact⟨a,b,c,d,e,.inr (.inr ⟨f,g,h⟩)⟩
theorem Qke {w:World} {im:Im} {θ:List (Nat×Nat)} {ρ ρ':Rho} (hρ: ∀b b0 x,lkp θ b=some b0→ρ b0=some x→ρ' b=some x): ∀(vs' vs:List PV),Qhn θ vs'=some vs→(vs'.all fun v=>Qa4 v.cells)=true→
  vs'.map (fun v=>v.cells.length)=vs.map (fun v=>v.cells.length)∧ ∀us,LRL w im ρ (vs.flatMap PV.cells) us→LRL w im ρ' (vs'.flatMap PV.cells) us
 | [],vs,h,_=>by
  simp only [Qhn,Option.some.injEq]at h;subst h;exact⟨rfl,fun us hu=>by cases hu.nil_inv;exact .nil⟩
 |v'::vs',vs,h,ho=>by
  simp only [List.all_cons,Bool.and_eq_true]at ho;simp only [Qhn]at h;cases h1:ren1 θ v' with
  |none=>rw [h1]at h;cases h
  |some x=>
   rw [h1]at h;simp only at h;cases h2:Qhn θ vs' with
   |none=>rw [h2]at h;cases h
   |some xs=>
    rw [h2]at h;simp only [Option.some.injEq]at h;subst h;obtain⟨k1,k2⟩:=Qhl (w:=w) (im:=im) h1 ho.1;obtain⟨m1,m2⟩:=Qke (w:=w) (im:=im) hρ vs' xs h2 ho.2;refine⟨by rw [List.map_cons,List.map_cons,k1,m1],fun us hu=> ?_⟩;rw [List.flatMap_cons]at hu ⊢;obtain⟨u1,u2,rfl,l1,l2⟩:=hu.split;exact(k2 ρ ρ' hρ u1 l1).append (m2 u2 l2)
def Qd9 (θ:List (Nat×Nat)) (bs:List (Nat×Box)):List (Nat×Box)→Prop
 | []=>True
 |(b,B')::rest=>(match lkp θ b with
  |some b0=>match lkp bs b0 with
   |some B=>Box.renD θ B' B
   |none=>False
  |none=>False)∧Qd9 θ bs rest
theorem Qaz.toD {θ:List (Nat×Nat)} {bs:List (Nat×Box)}: ∀{bs':List (Nat×Box)},Qaz θ bs bs'→Qd9 θ bs bs'
 | [],_=>trivial
 |(b,B')::rest,h=>by
  refine⟨?_,Qaz.toD h.2⟩;have h1:=h.1;cases e0:lkp θ b with
  |none=>rw [e0]at h1;exact h1.elim
  |some b0=>
   rw [e0]at h1;simp only at h1 ⊢;cases e1:lkp bs b0 with
   |none=>rw [e1]at h1;exact h1.elim
   |some B=>rw [e1]at h1;exact .inl h1
theorem Qjk {θ:List (Nat×Nat)} {bs bs':List (Nat×Box)} (h:Qd9 θ bs bs') {b:Nat} {B':Box} (hB:lkp bs' b=some B'): ∃b0 B,lkp θ b=some b0∧lkp bs b0=some B∧Box.renD θ B' B:=by
 induction bs' with
 |nil=>cases hB
 |cons p rest ih=>
  obtain⟨k,x⟩:=p;unfold lkp at hB;split at hB
  ·rename_i e;cases hB;subst e;have h1:=h.1;cases e0:lkp θ b with
   |none=>rw [e0]at h1;exact h1.elim
   |some b0=>
    rw [e0]at h1;simp only at h1;cases e1:lkp bs b0 with
    |none=>rw [e1]at h1;exact h1.elim
    |some B=>rw [e1]at h1;exact⟨b0,B,rfl,e1,h1⟩
  ·exact ih h.2 hB
theorem Zc1 {θ:List (Nat×Nat)} {vs vs':List (Nat×PV)} {bs bs':List (Nat×Box)} {o:List (List PV)} {y:Yl} (hθ:Qh4 θ bs'=true) (hv:Qac θ vs vs') (hb:Qd9 θ bs bs'):Le (St.ofG vs bs o y) (St.ofG vs' bs' o y):=by
 simp only [Qh4,Bool.and_eq_true]at hθ;obtain⟨hκ,hθ⟩:=hθ;have hinj: ∀b1 b2 b0,lkp θ b1=some b0→lkp θ b2=some b0→b1=b2:=by
  intro b1 b2 b0 e1 e2;have z1:=(Qbt hκ).1 e1;have z2:=(Qbt hκ).1 e2;rw [z1]at z2;exact Option.some.inj z2
 have hall: ∀b b0,lkp θ b=some b0→(lkp bs' b).isSome=true∧(LENT≤b→b0=b):=by
  intro b b0 e;have:=List.all_eq_true.1 hθ _ (Qce e);simp only [Bool.and_eq_true,Bool.or_eq_true,beq_iff_eq]at this;refine⟨this.1,fun hL=> ?_⟩;rcases this.2 with q|q
  ·have:=Nat.le_of_ble_eq_true q;omega
  ·exact q.symm
 have hkey: ∀b b0,lkp θ b=some b0→(lkp bs' b).isSome=true:=fun b b0 e=>(hall b b0 e).1;rintro C a w ⟨ρ,im,h⟩;have hthere: ∀b B',lkp bs' b=some B'→ ∃b0 B x,lkp θ b=some b0∧lkp bs b0=some B∧Box.renD θ B' B∧ρ b0=some x:=by
  intro b B' hB';obtain⟨b0,B,e1,e2,e3⟩:=Qjk hb hB';cases hx:ρ b0 with
  |none=>
   have:=(h.rho b0).1 hx;simp only [Qhy]at this;rw [e2]at this;cases this
  |some x=>exact⟨b0,B,x,e1,e2,e3,hx⟩
 obtain⟨ρ',hρ'⟩: ∃ρ':Rho,∀b,ρ' b=(lkp θ b).bind ρ:=⟨fun b=>(lkp θ b).bind ρ,fun _=>rfl⟩;have hρ: ∀b b0 x,lkp θ b=some b0→ρ b0=some x→ρ' b=some x:=by
  intro b b0 x e1 e2;rw [hρ',e1];exact e2
 have hback: ∀b x,ρ' b=some x→ ∃b0,lkp θ b=some b0∧ρ b0=some x:=by
  intro b x e;rw [hρ']at e;cases hb0:lkp θ b with
  |none=>rw [hb0]at e;cases e
  |some b0=>rw [hb0]at e;exact⟨b0,rfl,e⟩
 refine⟨ρ',im,h.step ⟨.refl _ _ _,Keeps.refl _ _,?_,fun _ _ x=>x,fun _ _ x=> .inl x⟩ ?_,h.nt,h.dfr,h.imc,?_,?_,?_,?_⟩
 ·rintro g ⟨b,hb'⟩;obtain⟨b0,_,e⟩:=hback b _ hb';exact .inl ⟨b0,e⟩
 ·intro b x x' hL h0 hx';obtain⟨b0,e1,e2⟩:=hback b x' hx';rw [(hall b b0 e1).2 hL]at e2;exact h.root.rho0 b x x' hL h0 e2
 ·intro t v hvt;obtain⟨x,e1,e2⟩:=Qfx hv hvt;exact Qhk hρ e2 (h.var t x e1)
 ·intro b;constructor
  ·intro e;cases hB':lkp bs' b with
   |none=>exact hB'
   |some B'=>
    obtain⟨b0,B,x,e1,_,_,e4⟩:=hthere b B' hB';rw [hρ b b0 x e1 e4]at e;cases e
  ·intro e;rw [hρ'];cases hb0:lkp θ b with
   |none=>rfl
   |some b0=>have:=hkey b b0 hb0;simp only [Qhy]at e;rw [e]at this;cases this
 ·intro b x B' hx hB';obtain⟨b0,B,x0,e1,e2,r0,e4⟩:=hthere b B' hB';obtain⟨r1,r2,r3,r4,r5,r6⟩:=r0.parts;obtain⟨r5,rm⟩:=Prod.mk.inj r5;rw [hρ b b0 x0 e1 e4]at hx;cases hx;have hbox:=h.box b0 x B e4 e2;cases x with
  |none=>
   obtain⟨z1,z2,z3,z4⟩:=hbox;rcases r6 with⟨_,r6⟩|⟨q1,v,v',q2,q3,_⟩|⟨q1,q2,_⟩
   ·exact⟨by rw [←r6];exact z1,by rw [r5];exact z2,by rw [r3];exact z3,by rw [r1];exact z4⟩
   ·rw [q3]at z1;cases z1
   ·rw [r5]at q1;rw [q1]at z2;cases z2
  |some g=>
   obtain⟨h1,h2,h3,h4,⟨hmn,cur,us,rest,h5,h6,h7,h8,h9,h10,h11⟩|hm⟩:=hbox
   case inr=>
    rcases r6 with⟨ra,r6⟩|⟨q1,v,v',q2,q3,q4,q5⟩|⟨q1,q2,q3⟩
    ·obtain⟨m1,m2,m3,m4⟩:=hm;exact⟨h1,by rw [r3,←r6];exact h2,by rw [r1];exact h3,by rw [r1,←r6];exact h4,.inr ⟨by rw [←r6];exact m1,ra,by rw [r4];exact m3,by rw [rm];exact m4⟩⟩
    ·rw [hm.1]at q3;cases q3
    ·rw [r5,hm.2.1]at q1;cases q1
   rcases r6 with⟨ra,r6⟩|⟨q1,v,v',q2,q3,q4,q5⟩|⟨q1,q2,q3⟩
   ·refine⟨h1,by rw [r3,←r6];exact h2,by rw [r1];exact h3,by rw [r1,←r6];exact h4,.inl ⟨rm.trans hmn,cur,us,rest,by rw [r2];exact h5,h6,?_,by rw [r5,←r6];exact h8,h9,by rw [r3,r1,r4];exact h10,by rw [r3,r1,r4];exact h11⟩⟩;rw [←r6];exact(h8 (by rw [←r5];exact ra)).toLRL
   ·obtain⟨k1,k2⟩:=Qhl (w:=w) (im:=im) q4 q5;rw [q3]at h2 h4 h7 h8;simp only [List.flatMap_cons,List.flatMap_nil,List.append_nil]at h7 h8;refine⟨h1,by rw [r3,q2];exact h2,by rw [r1];exact h3,?_,.inl ⟨rm.trans hmn,cur,us,rest,by rw [r2];exact h5,h6,?_,?_,h9,by rw [r3,r1,r4];exact h10,by rw [r3,r1,r4];exact h11⟩⟩
    ·intro e he;rw [q2]at he;simp only [List.mem_singleton]at he;subst he;rw [k1,r1];exact h4 v (by simp)
    ·rw [q2];simpa using k2 ρ ρ' hρ us h7
    ·intro ha;rw [q1]at ha;cases ha
   ·obtain⟨k1,k2⟩:=Qke (w:=w) (im:=im) (ρ:=ρ) (ρ':=ρ') hρ B'.els B.els q2 q3;have kl:B'.els.length=B.els.length:=by have:=congrArg List.length k1;simpa using this
    refine⟨h1,by rw [r3,kl];exact h2,by rw [r1];exact h3,?_,.inl ⟨rm.trans hmn,cur,us,rest,by rw [r2];exact h5,h6,k2 us h7,fun(ha:B'.arr=true)=>absurd (q1.symm.trans ha) (by decide),h9,by rw [r3,r1,r4];exact h10,by rw [r3,r1,r4];exact h11⟩⟩;intro e he;have:e.cells.length∈B'.els.map (fun v=>v.cells.length):=List.mem_map.2 ⟨e,he,rfl⟩;rw [k1]at this;obtain⟨d,hd,e3⟩:=List.mem_map.1 this;rw [←e3,r1];exact h4 d hd
 ·intro b1 b2 g B1 B2 p1 p2 e1 e2 l1 l2;obtain⟨b01,t1,t2⟩:=hback b1 _ p1;obtain⟨b02,t3,t4⟩:=hback b2 _ p2;obtain⟨c01,D1,x1,u1,u2,r10,u4⟩:=hthere b1 B1 e1;obtain⟨c02,D2,x2,u5,u6,r20,u8⟩:=hthere b2 B2 e2;have v1:=r10.parts.2.2.2.1;have v2:=r20.parts.2.2.2.1;rw [t1]at u1;cases u1;rw [t3]at u5;cases u5;have:=h.inj b01 b02 g D1 D2 t2 t4 u2 u6 (by rw [←v1];exact l1) (by rw [←v2];exact l2);subst this;exact hinj b1 b2 b01 t1 t3
end Go.Vl
