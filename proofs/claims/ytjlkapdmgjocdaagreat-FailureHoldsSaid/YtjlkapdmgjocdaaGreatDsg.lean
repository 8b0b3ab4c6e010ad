/-
  LTy, Dq, Dr, Ds, Du, Dsg (merged for the claim).
-/
import Derived.Test.YtjlkapdmgjocdaaGreatUV
import Derived.Test.YtjlkapdmgjocdaaGreatProg
set_option linter.unusedSimpArgs false
set_option linter.unusedVariables false
namespace Go.Proofs.YtjlkapdmgjocdaaGreat
open Go.Vl
theorem mixed:Tryz.prog.follows .mixedOrders=true:=by kernel_rfl
theorem Zy1:tyOk Tryz.prog 3=true:=by kernel_rfl
theorem Zvy:Qbf Tryz.prog 3=false:=by kernel_rfl
theorem Q6v:(Tryz.prog.info? 3).isSome=true:=by kernel_rfl
theorem Zow:Qas Tryz.prog 3=some (1,8):=by kernel_rfl
theorem Zex:Tryz.prog.cellsOf 3=1:=by kernel_rfl
theorem Zox:Qaw Tryz.prog 3=some (PV.int IntKind.i64 0):=by kernel_rfl
theorem Zvz:Tryz.prog.underlying 3=some (.int .i64):=by kernel_rfl
theorem Zy2:tyOk Tryz.prog 4=true:=by kernel_rfl
theorem Zv0:Qbf Tryz.prog 4=false:=by kernel_rfl
theorem Q6w:(Tryz.prog.info? 4).isSome=true:=by kernel_rfl
theorem Zoy:Qas Tryz.prog 4=some (1,1):=by kernel_rfl
theorem Zey:Tryz.prog.cellsOf 4=1:=by kernel_rfl
theorem Zoz:Qaw Tryz.prog 4=some (PV.bool Bool.false):=by kernel_rfl
theorem Zo0:Tryz.prog.underlying 4=some .bool:=by kernel_rfl
theorem Zy3:tyOk Tryz.prog 5=true:=by kernel_rfl
theorem Zv1:Qbf Tryz.prog 5=false:=by kernel_rfl
theorem Q6x:(Tryz.prog.info? 5).isSome=true:=by kernel_rfl
theorem Zo1:Qas Tryz.prog 5=some (1,1):=by kernel_rfl
theorem Zez:Tryz.prog.cellsOf 5=1:=by kernel_rfl
theorem Zo2:Qaw Tryz.prog 5=some (PV.int IntKind.u8 0):=by kernel_rfl
theorem Zv2:Tryz.prog.underlying 5=some (.int .u8):=by kernel_rfl
theorem Zy4:tyOk Tryz.prog 9=true:=by kernel_rfl
theorem Zv3:Qbf Tryz.prog 9=false:=by kernel_rfl
theorem Q6y:(Tryz.prog.info? 9).isSome=true:=by kernel_rfl
theorem Zo3:Qas Tryz.prog 9=some (1,16):=by kernel_rfl
theorem Ze0:Tryz.prog.cellsOf 9=1:=by kernel_rfl
theorem Zo4:Qaw Tryz.prog 9=some (PV.str {data:={toList:=[]}}):=by kernel_rfl
theorem Zmk:Tryz.prog.underlying 9=some .string:=by kernel_rfl
theorem Zo5 (s:ByteArray):Qbb Tryz.prog 9 (.str s)=some (.int .i64 s.size):=by simp only [Qbb,Zmk]
theorem Zv4:tyOk Tryz.prog 22=true:=by kernel_rfl
theorem Zo6:Qbf Tryz.prog 22=false:=by kernel_rfl
theorem Q02:(Tryz.prog.info? 22).isSome=true:=by kernel_rfl
theorem Ze1:Qas Tryz.prog 22=some (1,24):=by kernel_rfl
theorem Q6z:Tryz.prog.cellsOf 22=1:=by kernel_rfl
theorem Ze2:Qaw Tryz.prog 22=some PV.nilS:=by kernel_rfl
theorem Ze3:Qbs Tryz.prog 22=some 9:=by kernel_rfl
theorem Qjc:Tryz.prog.underlying 22=some (.slice 9):=by kernel_rfl
theorem Ze4 (es:List PV):Qbb Tryz.prog 22 (.slc es)=some (.int .i64 es.length):=by simp only [Qbb,Qjc]
theorem Ze5:Qbb Tryz.prog 22 .nilS=some (.int .i64 0):=by simp only [Qbb,Qjc]
theorem Ze6 (b e o n:Nat):Qbb Tryz.prog 22 (.bs b e o n)=some (.int .i64 n):=by simp only [Qbb,Qjc]
theorem Zv5:tyOk Tryz.prog 23=true:=by kernel_rfl
theorem Zo7:Qbf Tryz.prog 23=false:=by kernel_rfl
theorem Q03:(Tryz.prog.info? 23).isSome=true:=by kernel_rfl
theorem Ze7:Qas Tryz.prog 23=some (1,24):=by kernel_rfl
theorem Q60:Tryz.prog.cellsOf 23=1:=by kernel_rfl
theorem Ze8:Qaw Tryz.prog 23=some PV.nilS:=by kernel_rfl
theorem Ze9:Qbs Tryz.prog 23=some 54:=by kernel_rfl
theorem Qjd:Tryz.prog.underlying 23=some (.slice 54):=by kernel_rfl
theorem Zfa (es:List PV):Qbb Tryz.prog 23 (.slc es)=some (.int .i64 es.length):=by simp only [Qbb,Qjd]
theorem Zfb:Qbb Tryz.prog 23 .nilS=some (.int .i64 0):=by simp only [Qbb,Qjd]
theorem Zfc (b e o n:Nat):Qbb Tryz.prog 23 (.bs b e o n)=some (.int .i64 n):=by simp only [Qbb,Qjd]
theorem Zv6:tyOk Tryz.prog 24=true:=by kernel_rfl
theorem Zo8:Qbf Tryz.prog 24=false:=by kernel_rfl
theorem Q04:(Tryz.prog.info? 24).isSome=true:=by kernel_rfl
theorem Zfd:Qas Tryz.prog 24=some (1,24):=by kernel_rfl
theorem Q61:Tryz.prog.cellsOf 24=1:=by kernel_rfl
theorem Zfe:Qaw Tryz.prog 24=some PV.nilS:=by kernel_rfl
theorem Zff:Qbs Tryz.prog 24=some 76:=by kernel_rfl
theorem Qje:Tryz.prog.underlying 24=some (.slice 76):=by kernel_rfl
theorem Zfg (es:List PV):Qbb Tryz.prog 24 (.slc es)=some (.int .i64 es.length):=by simp only [Qbb,Qje]
theorem Zfh:Qbb Tryz.prog 24 .nilS=some (.int .i64 0):=by simp only [Qbb,Qje]
theorem Zfi (b e o n:Nat):Qbb Tryz.prog 24 (.bs b e o n)=some (.int .i64 n):=by simp only [Qbb,Qje]
theorem Zv7:tyOk Tryz.prog 26=true:=by kernel_rfl
theorem Zo9:Qbf Tryz.prog 26=true:=by kernel_rfl
theorem Q05:(Tryz.prog.info? 26).isSome=true:=by kernel_rfl
theorem Zfj:Qas Tryz.prog 26=some (3,72):=by kernel_rfl
theorem Q62:Tryz.prog.cellsOf 26=3:=by kernel_rfl
theorem Zfk:Qaw Tryz.prog 26=some (PV.agg [PV.nilS,PV.nilS,PV.nilS]):=by kernel_rfl
theorem Q63:buildable Tryz.prog 26=true:=by kernel_rfl
theorem Zpa:Qa4 Tryz.prog 26 0=some (0,22,1):=by kernel_rfl
theorem Zpb:Qad Tryz.prog 26 0=some (0,1):=by kernel_rfl
theorem Zpc:Qa4 Tryz.prog 26 1=some (1,23,1):=by kernel_rfl
theorem Zpd:Qad Tryz.prog 26 1=some (1,1):=by kernel_rfl
theorem Zpe:Qa4 Tryz.prog 26 2=some (2,24,1):=by kernel_rfl
theorem Zpf:Qad Tryz.prog 26 2=some (2,1):=by kernel_rfl
theorem Zv8:tyOk Tryz.prog 28=true:=by kernel_rfl
theorem Zpg:Qbf Tryz.prog 28=true:=by kernel_rfl
theorem Q06:(Tryz.prog.info? 28).isSome=true:=by kernel_rfl
theorem Zfl:Qas Tryz.prog 28=some (2,16):=by kernel_rfl
theorem Q64:Tryz.prog.cellsOf 28=2:=by kernel_rfl
theorem Zfm:Qaw Tryz.prog 28=some (PV.agg [PV.int IntKind.i64 0,PV.int IntKind.i64 0]):=by kernel_rfl
theorem Q65:buildable Tryz.prog 28=true:=by kernel_rfl
theorem Zph:Qa4 Tryz.prog 28 0=some (0,3,1):=by kernel_rfl
theorem Zpi:Qad Tryz.prog 28 0=some (0,1):=by kernel_rfl
theorem Zpj:Qa4 Tryz.prog 28 1=some (1,3,1):=by kernel_rfl
theorem Zpk:Qad Tryz.prog 28 1=some (1,1):=by kernel_rfl
theorem Zpl:Qcp Tryz.prog 28=some [1,1]:=by kernel_rfl
theorem Zv9:tyOk Tryz.prog 30=true:=by kernel_rfl
theorem Zpm:Qbf Tryz.prog 30=true:=by kernel_rfl
theorem Q07:(Tryz.prog.info? 30).isSome=true:=by kernel_rfl
theorem Zfn:Qas Tryz.prog 30=some (2,16):=by kernel_rfl
theorem Q66:Tryz.prog.cellsOf 30=2:=by kernel_rfl
theorem Zfo:Qaw Tryz.prog 30=some (PV.agg [PV.int IntKind.i64 0,PV.int IntKind.i64 0]):=by kernel_rfl
theorem Q67:buildable Tryz.prog 30=true:=by kernel_rfl
theorem Zpn:Qa4 Tryz.prog 30 0=some (0,3,1):=by kernel_rfl
theorem Zpo:Qad Tryz.prog 30 0=some (0,1):=by kernel_rfl
theorem Zpp:Qa4 Tryz.prog 30 1=some (1,3,1):=by kernel_rfl
theorem Zpq:Qad Tryz.prog 30 1=some (1,1):=by kernel_rfl
theorem Zpr:Qcp Tryz.prog 30=some [1,1]:=by kernel_rfl
theorem Zwa:tyOk Tryz.prog 33=true:=by kernel_rfl
theorem Zps:Qbf Tryz.prog 33=false:=by kernel_rfl
theorem Q08:(Tryz.prog.info? 33).isSome=true:=by kernel_rfl
theorem Zfp:Qas Tryz.prog 33=some (1,8):=by kernel_rfl
theorem Q68:Tryz.prog.cellsOf 33=1:=by kernel_rfl
theorem Zfq:Qaw Tryz.prog 33=some (PV.int IntKind.i64 0):=by kernel_rfl
theorem Zpt:Tryz.prog.underlying 33=some (.int .i64):=by kernel_rfl
theorem Zwb:tyOk Tryz.prog 40=true:=by kernel_rfl
theorem Zpu:Qbf Tryz.prog 40=false:=by kernel_rfl
theorem Q09:(Tryz.prog.info? 40).isSome=true:=by kernel_rfl
theorem Zfr:Qas Tryz.prog 40=some (1,8):=by kernel_rfl
theorem Q69:Tryz.prog.cellsOf 40=1:=by kernel_rfl
theorem Zfs:Qaw Tryz.prog 40=some (PV.int IntKind.i64 0):=by kernel_rfl
theorem Zpv:Tryz.prog.underlying 40=some (.int .i64):=by kernel_rfl
theorem Zwc:tyOk Tryz.prog 49=true:=by kernel_rfl
theorem Zpw:Qbf Tryz.prog 49=false:=by kernel_rfl
theorem Q1a:(Tryz.prog.info? 49).isSome=true:=by kernel_rfl
theorem Zft:Qas Tryz.prog 49=some (1,8):=by kernel_rfl
theorem Q7a:Tryz.prog.cellsOf 49=1:=by kernel_rfl
theorem Zfu:Qaw Tryz.prog 49=some PV.nilF:=by kernel_rfl
theorem Zwd:tyOk Tryz.prog 54=true:=by kernel_rfl
theorem Zpx:Qbf Tryz.prog 54=true:=by kernel_rfl
theorem Q1b:(Tryz.prog.info? 54).isSome=true:=by kernel_rfl
theorem Zfv:Qas Tryz.prog 54=some (3,24):=by kernel_rfl
theorem Q7b:Tryz.prog.cellsOf 54=3:=by kernel_rfl
theorem Zfw:Qaw Tryz.prog 54=some (PV.agg [PV.int IntKind.i64 0,PV.int IntKind.i64 0,PV.int IntKind.i64 0]):=by kernel_rfl
theorem Q7c:buildable Tryz.prog 54=true:=by kernel_rfl
theorem Zpy:Qa4 Tryz.prog 54 0=some (0,3,1):=by kernel_rfl
theorem Zpz:Qad Tryz.prog 54 0=some (0,1):=by kernel_rfl
theorem Zp0:Qa4 Tryz.prog 54 1=some (1,3,1):=by kernel_rfl
theorem Zp1:Qad Tryz.prog 54 1=some (1,1):=by kernel_rfl
theorem Zp2:Qa4 Tryz.prog 54 2=some (2,3,1):=by kernel_rfl
theorem Zp3:Qad Tryz.prog 54 2=some (2,1):=by kernel_rfl
theorem Zp4:Qcp Tryz.prog 54=some [1,1,1]:=by kernel_rfl
theorem Zwe:tyOk Tryz.prog 60=true:=by kernel_rfl
theorem Zp5:Qbf Tryz.prog 60=false:=by kernel_rfl
theorem Q1c:(Tryz.prog.info? 60).isSome=true:=by kernel_rfl
theorem Zfx:Qas Tryz.prog 60=some (1,24):=by kernel_rfl
theorem Q7d:Tryz.prog.cellsOf 60=1:=by kernel_rfl
theorem Zfy:Qaw Tryz.prog 60=some PV.nilS:=by kernel_rfl
theorem Zfz:Qbs Tryz.prog 60=some 91:=by kernel_rfl
theorem Qjf:Tryz.prog.underlying 60=some (.slice 91):=by kernel_rfl
theorem Zf0 (es:List PV):Qbb Tryz.prog 60 (.slc es)=some (.int .i64 es.length):=by simp only [Qbb,Qjf]
theorem Zf1:Qbb Tryz.prog 60 .nilS=some (.int .i64 0):=by simp only [Qbb,Qjf]
theorem Zf2 (b e o n:Nat):Qbb Tryz.prog 60 (.bs b e o n)=some (.int .i64 n):=by simp only [Qbb,Qjf]
theorem Zwf:tyOk Tryz.prog 66=true:=by kernel_rfl
theorem Zp6:Qbf Tryz.prog 66=false:=by kernel_rfl
theorem Q1d:(Tryz.prog.info? 66).isSome=true:=by kernel_rfl
theorem Zf3:Qas Tryz.prog 66=some (1,24):=by kernel_rfl
theorem Q7e:Tryz.prog.cellsOf 66=1:=by kernel_rfl
theorem Zf4:Qaw Tryz.prog 66=some PV.nilS:=by kernel_rfl
theorem Zf5:Qbs Tryz.prog 66=some 60:=by kernel_rfl
theorem Qjg:Tryz.prog.underlying 66=some (.slice 60):=by kernel_rfl
theorem Zf6 (es:List PV):Qbb Tryz.prog 66 (.slc es)=some (.int .i64 es.length):=by simp only [Qbb,Qjg]
theorem Zf7:Qbb Tryz.prog 66 .nilS=some (.int .i64 0):=by simp only [Qbb,Qjg]
theorem Zf8 (b e o n:Nat):Qbb Tryz.prog 66 (.bs b e o n)=some (.int .i64 n):=by simp only [Qbb,Qjg]
theorem Zwg:tyOk Tryz.prog 74=true:=by kernel_rfl
theorem Zp7:Qbf Tryz.prog 74=false:=by kernel_rfl
theorem Q1e:(Tryz.prog.info? 74).isSome=true:=by kernel_rfl
theorem Zf9:Qas Tryz.prog 74=some (1,24):=by kernel_rfl
theorem Q7f:Tryz.prog.cellsOf 74=1:=by kernel_rfl
theorem Zga:Qaw Tryz.prog 74=some PV.nilS:=by kernel_rfl
theorem Zgb:Qbs Tryz.prog 74=some 87:=by kernel_rfl
theorem Qjh:Tryz.prog.underlying 74=some (.slice 87):=by kernel_rfl
theorem Zgc (es:List PV):Qbb Tryz.prog 74 (.slc es)=some (.int .i64 es.length):=by simp only [Qbb,Qjh]
theorem Zgd:Qbb Tryz.prog 74 .nilS=some (.int .i64 0):=by simp only [Qbb,Qjh]
theorem Zge (b e o n:Nat):Qbb Tryz.prog 74 (.bs b e o n)=some (.int .i64 n):=by simp only [Qbb,Qjh]
theorem Zwh:tyOk Tryz.prog 76=true:=by kernel_rfl
theorem Zp8:Qbf Tryz.prog 76=true:=by kernel_rfl
theorem Q1f:(Tryz.prog.info? 76).isSome=true:=by kernel_rfl
theorem Zgf:Qas Tryz.prog 76=some (3,48):=by kernel_rfl
theorem Q7g:Tryz.prog.cellsOf 76=3:=by kernel_rfl
theorem Zgg:Qaw Tryz.prog 76=some (PV.agg [PV.str {data:={toList:=[]}},PV.int IntKind.i64 0,PV.nilS]):=by kernel_rfl
theorem Q7h:buildable Tryz.prog 76=true:=by kernel_rfl
theorem Zp9:Qa4 Tryz.prog 76 0=some (0,9,1):=by kernel_rfl
theorem Zqa:Qad Tryz.prog 76 0=some (0,1):=by kernel_rfl
theorem Zqb:Qa4 Tryz.prog 76 1=some (1,3,1):=by kernel_rfl
theorem Zqc:Qad Tryz.prog 76 1=some (1,1):=by kernel_rfl
theorem Zqd:Qa4 Tryz.prog 76 2=some (2,74,1):=by kernel_rfl
theorem Zqe:Qad Tryz.prog 76 2=some (2,1):=by kernel_rfl
theorem Zwi:tyOk Tryz.prog 78=true:=by kernel_rfl
theorem Zqf:Qbf Tryz.prog 78=false:=by kernel_rfl
theorem Q1g:(Tryz.prog.info? 78).isSome=true:=by kernel_rfl
theorem Zgh:Qas Tryz.prog 78=some (1,24):=by kernel_rfl
theorem Q7i:Tryz.prog.cellsOf 78=1:=by kernel_rfl
theorem Zgi:Qaw Tryz.prog 78=some PV.nilS:=by kernel_rfl
theorem Zgj:Qbs Tryz.prog 78=some 3:=by kernel_rfl
theorem Qji:Tryz.prog.underlying 78=some (.slice 3):=by kernel_rfl
theorem Zgk (es:List PV):Qbb Tryz.prog 78 (.slc es)=some (.int .i64 es.length):=by simp only [Qbb,Qji]
theorem Zgl:Qbb Tryz.prog 78 .nilS=some (.int .i64 0):=by simp only [Qbb,Qji]
theorem Zgm (b e o n:Nat):Qbb Tryz.prog 78 (.bs b e o n)=some (.int .i64 n):=by simp only [Qbb,Qji]
theorem Zwj:tyOk Tryz.prog 79=true:=by kernel_rfl
theorem Zqg:Qbf Tryz.prog 79=false:=by kernel_rfl
theorem Q1h:(Tryz.prog.info? 79).isSome=true:=by kernel_rfl
theorem Zgn:Qas Tryz.prog 79=some (1,24):=by kernel_rfl
theorem Q7j:Tryz.prog.cellsOf 79=1:=by kernel_rfl
theorem Zgo:Qaw Tryz.prog 79=some PV.nilS:=by kernel_rfl
theorem Zgp:Qbs Tryz.prog 79=some 40:=by kernel_rfl
theorem Qjj:Tryz.prog.underlying 79=some (.slice 40):=by kernel_rfl
theorem Zgq (es:List PV):Qbb Tryz.prog 79 (.slc es)=some (.int .i64 es.length):=by simp only [Qbb,Qjj]
theorem Zgr:Qbb Tryz.prog 79 .nilS=some (.int .i64 0):=by simp only [Qbb,Qjj]
theorem Zgs (b e o n:Nat):Qbb Tryz.prog 79 (.bs b e o n)=some (.int .i64 n):=by simp only [Qbb,Qjj]
theorem Zwk:tyOk Tryz.prog 87=true:=by kernel_rfl
theorem Zqh:Qbf Tryz.prog 87=true:=by kernel_rfl
theorem Q1i:(Tryz.prog.info? 87).isSome=true:=by kernel_rfl
theorem Zgt:Qas Tryz.prog 87=some (6,48):=by kernel_rfl
theorem Q7k:Tryz.prog.cellsOf 87=6:=by kernel_rfl
theorem Zgu:Qaw Tryz.prog 87=some (PV.agg [PV.int IntKind.i64 0,PV.int IntKind.i64 0,PV.int IntKind.i64 0,PV.int IntKind.i64 0,PV.int IntKind.i64 0,PV.int IntKind.i64 0]):=by kernel_rfl
theorem Q7l:buildable Tryz.prog 87=true:=by kernel_rfl
theorem Zqi:Qa4 Tryz.prog 87 0=some (0,54,3):=by kernel_rfl
theorem Zqj:Qad Tryz.prog 87 0=some (0,3):=by kernel_rfl
theorem Zqk:Qa4 Tryz.prog 87 1=some (3,3,1):=by kernel_rfl
theorem Zql:Qad Tryz.prog 87 1=some (3,1):=by kernel_rfl
theorem Zqm:Qa4 Tryz.prog 87 2=some (4,3,1):=by kernel_rfl
theorem Zqn:Qad Tryz.prog 87 2=some (4,1):=by kernel_rfl
theorem Zqo:Qa4 Tryz.prog 87 3=some (5,3,1):=by kernel_rfl
theorem Zqp:Qad Tryz.prog 87 3=some (5,1):=by kernel_rfl
theorem Zqq:Qcp Tryz.prog 87=some [1,1,1,1,1,1]:=by kernel_rfl
theorem Zwl:tyOk Tryz.prog 91=true:=by kernel_rfl
theorem Zqr:Qbf Tryz.prog 91=true:=by kernel_rfl
theorem Q1j:(Tryz.prog.info? 91).isSome=true:=by kernel_rfl
theorem Zgv:Qas Tryz.prog 91=some (6,96):=by kernel_rfl
theorem Q7m:Tryz.prog.cellsOf 91=6:=by kernel_rfl
theorem Zgw:Qaw Tryz.prog 91=some (PV.agg [PV.int IntKind.i64 0,PV.int IntKind.i64 0,PV.int IntKind.i64 0,PV.nilS,PV.nilS,PV.nilS]):=by kernel_rfl
theorem Q7n:buildable Tryz.prog 91=true:=by kernel_rfl
theorem Zqs:Qa4 Tryz.prog 91 0=some (0,3,1):=by kernel_rfl
theorem Zqt:Qad Tryz.prog 91 0=some (0,1):=by kernel_rfl
theorem Zqu:Qa4 Tryz.prog 91 1=some (1,3,1):=by kernel_rfl
theorem Zqv:Qad Tryz.prog 91 1=some (1,1):=by kernel_rfl
theorem Zqw:Qa4 Tryz.prog 91 2=some (2,3,1):=by kernel_rfl
theorem Zqx:Qad Tryz.prog 91 2=some (2,1):=by kernel_rfl
theorem Zqy:Qa4 Tryz.prog 91 3=some (3,78,1):=by kernel_rfl
theorem Zqz:Qad Tryz.prog 91 3=some (3,1):=by kernel_rfl
theorem Zq0:Qa4 Tryz.prog 91 4=some (4,78,1):=by kernel_rfl
theorem Zq1:Qad Tryz.prog 91 4=some (4,1):=by kernel_rfl
theorem Zq2:Qa4 Tryz.prog 91 5=some (5,78,1):=by kernel_rfl
theorem Zq3:Qad Tryz.prog 91 5=some (5,1):=by kernel_rfl
theorem Zwm:tyOk Tryz.prog 93=true:=by kernel_rfl
theorem Zq4:Qbf Tryz.prog 93=true:=by kernel_rfl
theorem Q1k:(Tryz.prog.info? 93).isSome=true:=by kernel_rfl
theorem Zgx:Qas Tryz.prog 93=some (2,24):=by kernel_rfl
theorem Q7o:Tryz.prog.cellsOf 93=2:=by kernel_rfl
theorem Zgy:Qaw Tryz.prog 93=some (PV.agg [PV.bool Bool.false,PV.str {data:={toList:=[]}}]):=by kernel_rfl
theorem Q7p:buildable Tryz.prog 93=true:=by kernel_rfl
theorem Zq5:Qa4 Tryz.prog 93 0=some (0,4,1):=by kernel_rfl
theorem Zq6:Qad Tryz.prog 93 0=some (0,1):=by kernel_rfl
theorem Zq7:Qa4 Tryz.prog 93 1=some (1,9,1):=by kernel_rfl
theorem Zq8:Qad Tryz.prog 93 1=some (1,1):=by kernel_rfl
theorem Zq9:Qcp Tryz.prog 93=some [0,2]:=by kernel_rfl
theorem Zwn:tyOk Tryz.prog 95=true:=by kernel_rfl
theorem Zra:Qbf Tryz.prog 95=true:=by kernel_rfl
theorem Q1l:(Tryz.prog.info? 95).isSome=true:=by kernel_rfl
theorem Zgz:Qas Tryz.prog 95=some (8,96):=by kernel_rfl
theorem Q7q:Tryz.prog.cellsOf 95=8:=by kernel_rfl
theorem Zg0:Qaw Tryz.prog 95=some (PV.agg [PV.bool Bool.false,PV.str {data:={toList:=[]}},PV.bool Bool.false,PV.str {data:={toList:=[]}},PV.bool Bool.false,PV.str {data:={toList:=[]}},PV.bool Bool.false,PV.str {data:={toList:=[]}}]):=by kernel_rfl
theorem Q7r:buildable Tryz.prog 95=true:=by kernel_rfl
theorem Zrb:Qa4 Tryz.prog 95 0=some (0,93,2):=by kernel_rfl
theorem Zrc:Qad Tryz.prog 95 0=some (0,2):=by kernel_rfl
theorem Zrd:Qa4 Tryz.prog 95 1=some (2,93,2):=by kernel_rfl
theorem Zre:Qad Tryz.prog 95 1=some (2,2):=by kernel_rfl
theorem Zrf:Qa4 Tryz.prog 95 2=some (4,93,2):=by kernel_rfl
theorem Zrg:Qad Tryz.prog 95 2=some (4,2):=by kernel_rfl
theorem Zrh:Qa4 Tryz.prog 95 3=some (6,93,2):=by kernel_rfl
theorem Zri:Qad Tryz.prog 95 3=some (6,2):=by kernel_rfl
theorem Zrj:Qcp Tryz.prog 95=some [0,2,0,2,0,2,0,2]:=by kernel_rfl
theorem Zwo:tyOk Tryz.prog 98=true:=by kernel_rfl
theorem Zrk:Qbf Tryz.prog 98=true:=by kernel_rfl
theorem Q1m:(Tryz.prog.info? 98).isSome=true:=by kernel_rfl
theorem Zg1:Qas Tryz.prog 98=some (3,24):=by kernel_rfl
theorem Q7s:Tryz.prog.cellsOf 98=3:=by kernel_rfl
theorem Zg2:Qaw Tryz.prog 98=some (PV.agg [PV.int IntKind.i64 0,PV.int IntKind.i64 0,PV.int IntKind.i64 0]):=by kernel_rfl
theorem Zrl:Qgm Tryz.prog 98=some (3,3):=by kernel_rfl
theorem Q7t:buildable Tryz.prog 98=true:=by kernel_rfl
theorem Zrm:Qad Tryz.prog 98 0=some (0,1):=by kernel_rfl
theorem Zrn:Qad Tryz.prog 98 1=some (1,1):=by kernel_rfl
theorem Zro:Qad Tryz.prog 98 2=some (2,1):=by kernel_rfl
theorem Zrp:Qad Tryz.prog 98 3=some (3,1):=by kernel_rfl
theorem Zrq:Qad Tryz.prog 98 4=some (4,1):=by kernel_rfl
theorem Zrr:Qad Tryz.prog 98 5=some (5,1):=by kernel_rfl
theorem Zrs:Qad Tryz.prog 98 6=some (6,1):=by kernel_rfl
theorem Zrt:Qad Tryz.prog 98 7=some (7,1):=by kernel_rfl
theorem Zru:Qad Tryz.prog 98 8=some (8,1):=by kernel_rfl
theorem Zrv:Qad Tryz.prog 98 9=some (9,1):=by kernel_rfl
theorem Zg3:Qad Tryz.prog 98 10=some (10,1):=by kernel_rfl
theorem Zg4:Qad Tryz.prog 98 11=some (11,1):=by kernel_rfl
theorem Zg5:Qad Tryz.prog 98 12=some (12,1):=by kernel_rfl
theorem Zg6:Qad Tryz.prog 98 13=some (13,1):=by kernel_rfl
theorem Zg7:Qad Tryz.prog 98 14=some (14,1):=by kernel_rfl
theorem Zg8:Qad Tryz.prog 98 15=some (15,1):=by kernel_rfl
theorem Zg9:Qad Tryz.prog 98 16=some (16,1):=by kernel_rfl
theorem Zha:Qad Tryz.prog 98 17=some (17,1):=by kernel_rfl
theorem Zhb:Qad Tryz.prog 98 18=some (18,1):=by kernel_rfl
theorem Zhc:Qad Tryz.prog 98 19=some (19,1):=by kernel_rfl
theorem Zwp:tyOk Tryz.prog 99=true:=by kernel_rfl
theorem Zrw:Qbf Tryz.prog 99=true:=by kernel_rfl
theorem Q1n:(Tryz.prog.info? 99).isSome=true:=by kernel_rfl
theorem Zhd:Qas Tryz.prog 99=some (6,72):=by kernel_rfl
theorem Q7u:Tryz.prog.cellsOf 99=6:=by kernel_rfl
theorem Zhe:Qaw Tryz.prog 99=some (PV.agg [PV.bool Bool.false,PV.str {data:={toList:=[]}},PV.bool Bool.false,PV.str {data:={toList:=[]}},PV.bool Bool.false,PV.str {data:={toList:=[]}}]):=by kernel_rfl
theorem Zrx:Qgm Tryz.prog 99=some (3,93):=by kernel_rfl
theorem Q7v:buildable Tryz.prog 99=true:=by kernel_rfl
theorem Zry:Qad Tryz.prog 99 0=some (0,2):=by kernel_rfl
theorem Zrz:Qad Tryz.prog 99 1=some (2,2):=by kernel_rfl
theorem Zr0:Qad Tryz.prog 99 2=some (4,2):=by kernel_rfl
theorem Zr1:Qad Tryz.prog 99 3=some (6,2):=by kernel_rfl
theorem Zr2:Qad Tryz.prog 99 4=some (8,2):=by kernel_rfl
theorem Zr3:Qad Tryz.prog 99 5=some (10,2):=by kernel_rfl
theorem Zr4:Qad Tryz.prog 99 6=some (12,2):=by kernel_rfl
theorem Zr5:Qad Tryz.prog 99 7=some (14,2):=by kernel_rfl
theorem Zr6:Qad Tryz.prog 99 8=some (16,2):=by kernel_rfl
theorem Zr7:Qad Tryz.prog 99 9=some (18,2):=by kernel_rfl
theorem Zhf:Qad Tryz.prog 99 10=some (20,2):=by kernel_rfl
theorem Zhg:Qad Tryz.prog 99 11=some (22,2):=by kernel_rfl
theorem Zhh:Qad Tryz.prog 99 12=some (24,2):=by kernel_rfl
theorem Zhi:Qad Tryz.prog 99 13=some (26,2):=by kernel_rfl
theorem Zhj:Qad Tryz.prog 99 14=some (28,2):=by kernel_rfl
theorem Zhk:Qad Tryz.prog 99 15=some (30,2):=by kernel_rfl
theorem Zhl:Qad Tryz.prog 99 16=some (32,2):=by kernel_rfl
theorem Zhm:Qad Tryz.prog 99 17=some (34,2):=by kernel_rfl
theorem Zhn:Qad Tryz.prog 99 18=some (36,2):=by kernel_rfl
theorem Zho:Qad Tryz.prog 99 19=some (38,2):=by kernel_rfl
theorem Zr8:tyOk Tryz.prog 109=true:=by kernel_rfl
theorem Zhp:Qbf Tryz.prog 109=false:=by kernel_rfl
theorem Qv9:(Tryz.prog.info? 109).isSome=true:=by kernel_rfl
theorem Q7w:Qas Tryz.prog 109=some (1,8):=by kernel_rfl
theorem Q1o:Tryz.prog.cellsOf 109=1:=by kernel_rfl
theorem Q7x:Qaw Tryz.prog 109=some PV.nilF:=by kernel_rfl
theorem Zr9:tyOk Tryz.prog 114=true:=by kernel_rfl
theorem Zhq:Qbf Tryz.prog 114=false:=by kernel_rfl
theorem Qwa:(Tryz.prog.info? 114).isSome=true:=by kernel_rfl
theorem Q7y:Qas Tryz.prog 114=some (1,8):=by kernel_rfl
theorem Q1p:Tryz.prog.cellsOf 114=1:=by kernel_rfl
theorem Q7z:Qaw Tryz.prog 114=some PV.nilF:=by kernel_rfl
theorem Zsa:tyOk Tryz.prog 115=true:=by kernel_rfl
theorem Zhr:Qbf Tryz.prog 115=false:=by kernel_rfl
theorem Qwb:(Tryz.prog.info? 115).isSome=true:=by kernel_rfl
theorem Q70:Qas Tryz.prog 115=some (1,8):=by kernel_rfl
theorem Q1q:Tryz.prog.cellsOf 115=1:=by kernel_rfl
theorem Q71:Qaw Tryz.prog 115=some PV.nilM:=by kernel_rfl
theorem Zsb:tyOk Tryz.prog 116=true:=by kernel_rfl
theorem Zhs:Qbf Tryz.prog 116=false:=by kernel_rfl
theorem Qwc:(Tryz.prog.info? 116).isSome=true:=by kernel_rfl
theorem Q72:Qas Tryz.prog 116=some (1,8):=by kernel_rfl
theorem Q1r:Tryz.prog.cellsOf 116=1:=by kernel_rfl
theorem Q73:Qaw Tryz.prog 116=some PV.nilM:=by kernel_rfl
theorem Zsc:tyOk Tryz.prog 122=true:=by kernel_rfl
theorem Zht:Qbf Tryz.prog 122=false:=by kernel_rfl
theorem Qwd:(Tryz.prog.info? 122).isSome=true:=by kernel_rfl
theorem Q74:Qas Tryz.prog 122=some (1,8):=by kernel_rfl
theorem Q1s:Tryz.prog.cellsOf 122=1:=by kernel_rfl
theorem Q75:Qaw Tryz.prog 122=some PV.nilF:=by kernel_rfl
theorem Zsd:tyOk Tryz.prog 126=true:=by kernel_rfl
theorem Zhu:Qbf Tryz.prog 126=false:=by kernel_rfl
theorem Qwe:(Tryz.prog.info? 126).isSome=true:=by kernel_rfl
theorem Q76:Qas Tryz.prog 126=some (1,24):=by kernel_rfl
theorem Q1t:Tryz.prog.cellsOf 126=1:=by kernel_rfl
theorem Q77:Qaw Tryz.prog 126=some PV.nilS:=by kernel_rfl
theorem Q78:Qbs Tryz.prog 126=some 130:=by kernel_rfl
theorem Qhl:Tryz.prog.underlying 126=some (.slice 130):=by kernel_rfl
theorem Q79 (es:List PV):Qbb Tryz.prog 126 (.slc es)=some (.int .i64 es.length):=by simp only [Qbb,Qhl]
theorem Q8a:Qbb Tryz.prog 126 .nilS=some (.int .i64 0):=by simp only [Qbb,Qhl]
theorem Q8b (b e o n:Nat):Qbb Tryz.prog 126 (.bs b e o n)=some (.int .i64 n):=by simp only [Qbb,Qhl]
theorem Zse:tyOk Tryz.prog 128=true:=by kernel_rfl
theorem Zhv:Qbf Tryz.prog 128=true:=by kernel_rfl
theorem Qwf:(Tryz.prog.info? 128).isSome=true:=by kernel_rfl
theorem Q8c:Qas Tryz.prog 128=some (2,32):=by kernel_rfl
theorem Q1u:Tryz.prog.cellsOf 128=2:=by kernel_rfl
theorem Q8d:Qaw Tryz.prog 128=some (PV.agg [PV.bool Bool.false,PV.nilS]):=by kernel_rfl
theorem Q1v:buildable Tryz.prog 128=true:=by kernel_rfl
theorem Zhw:Qa4 Tryz.prog 128 0=some (0,4,1):=by kernel_rfl
theorem Zhx:Qad Tryz.prog 128 0=some (0,1):=by kernel_rfl
theorem Zhy:Qa4 Tryz.prog 128 1=some (1,126,1):=by kernel_rfl
theorem Zhz:Qad Tryz.prog 128 1=some (1,1):=by kernel_rfl
theorem Zsf:tyOk Tryz.prog 130=true:=by kernel_rfl
theorem Zh0:Qbf Tryz.prog 130=false:=by kernel_rfl
theorem Qwg:(Tryz.prog.info? 130).isSome=true:=by kernel_rfl
theorem Q8e:Qas Tryz.prog 130=some (1,8):=by kernel_rfl
theorem Q1w:Tryz.prog.cellsOf 130=1:=by kernel_rfl
theorem Q8f:Qaw Tryz.prog 130=some (PV.int IntKind.u64 0):=by kernel_rfl
theorem Zh1:Tryz.prog.underlying 130=some (.int .u64):=by kernel_rfl
theorem Zsg:tyOk Tryz.prog 142=true:=by kernel_rfl
theorem Zh2:Qbf Tryz.prog 142=true:=by kernel_rfl
theorem Qwh:(Tryz.prog.info? 142).isSome=true:=by kernel_rfl
theorem Q8g:Qas Tryz.prog 142=some (3,72):=by kernel_rfl
theorem Q1x:Tryz.prog.cellsOf 142=3:=by kernel_rfl
theorem Q8h:Qaw Tryz.prog 142=some (PV.agg [PV.nilS,PV.nilS,PV.nilS]):=by kernel_rfl
theorem Zh3:Qgm Tryz.prog 142=some (3,78):=by kernel_rfl
theorem Q1y:buildable Tryz.prog 142=true:=by kernel_rfl
theorem Zh4:Qad Tryz.prog 142 0=some (0,1):=by kernel_rfl
theorem Zh5:Qad Tryz.prog 142 1=some (1,1):=by kernel_rfl
theorem Zh6:Qad Tryz.prog 142 2=some (2,1):=by kernel_rfl
theorem Zh7:Qad Tryz.prog 142 3=some (3,1):=by kernel_rfl
theorem Zh8:Qad Tryz.prog 142 4=some (4,1):=by kernel_rfl
theorem Zh9:Qad Tryz.prog 142 5=some (5,1):=by kernel_rfl
theorem Zia:Qad Tryz.prog 142 6=some (6,1):=by kernel_rfl
theorem Zib:Qad Tryz.prog 142 7=some (7,1):=by kernel_rfl
theorem Zic:Qad Tryz.prog 142 8=some (8,1):=by kernel_rfl
theorem Zid:Qad Tryz.prog 142 9=some (9,1):=by kernel_rfl
theorem Q8i:Qad Tryz.prog 142 10=some (10,1):=by kernel_rfl
theorem Q8j:Qad Tryz.prog 142 11=some (11,1):=by kernel_rfl
theorem Q8k:Qad Tryz.prog 142 12=some (12,1):=by kernel_rfl
theorem Q8l:Qad Tryz.prog 142 13=some (13,1):=by kernel_rfl
theorem Q8m:Qad Tryz.prog 142 14=some (14,1):=by kernel_rfl
theorem Q8n:Qad Tryz.prog 142 15=some (15,1):=by kernel_rfl
theorem Q8o:Qad Tryz.prog 142 16=some (16,1):=by kernel_rfl
theorem Q8p:Qad Tryz.prog 142 17=some (17,1):=by kernel_rfl
theorem Q8q:Qad Tryz.prog 142 18=some (18,1):=by kernel_rfl
theorem Q8r:Qad Tryz.prog 142 19=some (19,1):=by kernel_rfl
theorem Zsh:tyOk Tryz.prog 145=true:=by kernel_rfl
theorem Zie:Qbf Tryz.prog 145=false:=by kernel_rfl
theorem Qwi:(Tryz.prog.info? 145).isSome=true:=by kernel_rfl
theorem Q8s:Qas Tryz.prog 145=some (1,8):=by kernel_rfl
theorem Q1z:Tryz.prog.cellsOf 145=1:=by kernel_rfl
theorem Q8t:Qaw Tryz.prog 145=some (PV.int IntKind.u64 0):=by kernel_rfl
theorem Zif:Tryz.prog.underlying 145=some (.int .u64):=by kernel_rfl
theorem Zsi:tyOk Tryz.prog 156=true:=by kernel_rfl
theorem Zig:Qbf Tryz.prog 156=false:=by kernel_rfl
theorem Qwj:(Tryz.prog.info? 156).isSome=true:=by kernel_rfl
theorem Q8u:Qas Tryz.prog 156=some (1,24):=by kernel_rfl
theorem Q10:Tryz.prog.cellsOf 156=1:=by kernel_rfl
theorem Q8v:Qaw Tryz.prog 156=some PV.nilS:=by kernel_rfl
theorem Q8w:Qbs Tryz.prog 156=some 93:=by kernel_rfl
theorem Qhm:Tryz.prog.underlying 156=some (.slice 93):=by kernel_rfl
theorem Q8x (es:List PV):Qbb Tryz.prog 156 (.slc es)=some (.int .i64 es.length):=by simp only [Qbb,Qhm]
theorem Q8y:Qbb Tryz.prog 156 .nilS=some (.int .i64 0):=by simp only [Qbb,Qhm]
theorem Q8z (b e o n:Nat):Qbb Tryz.prog 156 (.bs b e o n)=some (.int .i64 n):=by simp only [Qbb,Qhm]
theorem Zsj:tyOk Tryz.prog 157=true:=by kernel_rfl
theorem Zih:Qbf Tryz.prog 157=false:=by kernel_rfl
theorem Qwk:(Tryz.prog.info? 157).isSome=true:=by kernel_rfl
theorem Q80:Qas Tryz.prog 157=some (1,24):=by kernel_rfl
theorem Q11:Tryz.prog.cellsOf 157=1:=by kernel_rfl
theorem Q81:Qaw Tryz.prog 157=some PV.nilS:=by kernel_rfl
theorem Q82:Qbs Tryz.prog 157=some 93:=by kernel_rfl
theorem Qhn:Tryz.prog.underlying 157=some (.slice 93):=by kernel_rfl
theorem Q83 (es:List PV):Qbb Tryz.prog 157 (.slc es)=some (.int .i64 es.length):=by simp only [Qbb,Qhn]
theorem Q84:Qbb Tryz.prog 157 .nilS=some (.int .i64 0):=by simp only [Qbb,Qhn]
theorem Q85 (b e o n:Nat):Qbb Tryz.prog 157 (.bs b e o n)=some (.int .i64 n):=by simp only [Qbb,Qhn]
theorem Zsk:tyOk Tryz.prog 158=true:=by kernel_rfl
theorem Zii:Qbf Tryz.prog 158=true:=by kernel_rfl
theorem Qwl:(Tryz.prog.info? 158).isSome=true:=by kernel_rfl
theorem Q86:Qas Tryz.prog 158=some (3,72):=by kernel_rfl
theorem Q12:Tryz.prog.cellsOf 158=3:=by kernel_rfl
theorem Q87:Qaw Tryz.prog 158=some (PV.agg [PV.nilS,PV.nilS,PV.nilS]):=by kernel_rfl
theorem Zij:Qgm Tryz.prog 158=some (3,157):=by kernel_rfl
theorem Q13:buildable Tryz.prog 158=true:=by kernel_rfl
theorem Zik:Qad Tryz.prog 158 0=some (0,1):=by kernel_rfl
theorem Zil:Qad Tryz.prog 158 1=some (1,1):=by kernel_rfl
theorem Zim:Qad Tryz.prog 158 2=some (2,1):=by kernel_rfl
theorem Zin:Qad Tryz.prog 158 3=some (3,1):=by kernel_rfl
theorem Zio:Qad Tryz.prog 158 4=some (4,1):=by kernel_rfl
theorem Zip:Qad Tryz.prog 158 5=some (5,1):=by kernel_rfl
theorem Ziq:Qad Tryz.prog 158 6=some (6,1):=by kernel_rfl
theorem Zir:Qad Tryz.prog 158 7=some (7,1):=by kernel_rfl
theorem Zis:Qad Tryz.prog 158 8=some (8,1):=by kernel_rfl
theorem Zit:Qad Tryz.prog 158 9=some (9,1):=by kernel_rfl
theorem Q88:Qad Tryz.prog 158 10=some (10,1):=by kernel_rfl
theorem Q89:Qad Tryz.prog 158 11=some (11,1):=by kernel_rfl
theorem Q9a:Qad Tryz.prog 158 12=some (12,1):=by kernel_rfl
theorem Q9b:Qad Tryz.prog 158 13=some (13,1):=by kernel_rfl
theorem Q9c:Qad Tryz.prog 158 14=some (14,1):=by kernel_rfl
theorem Q9d:Qad Tryz.prog 158 15=some (15,1):=by kernel_rfl
theorem Q9e:Qad Tryz.prog 158 16=some (16,1):=by kernel_rfl
theorem Q9f:Qad Tryz.prog 158 17=some (17,1):=by kernel_rfl
theorem Q9g:Qad Tryz.prog 158 18=some (18,1):=by kernel_rfl
theorem Q9h:Qad Tryz.prog 158 19=some (19,1):=by kernel_rfl
theorem Zsl:tyOk Tryz.prog 167=true:=by kernel_rfl
theorem Ziu:Qbf Tryz.prog 167=true:=by kernel_rfl
theorem Qwm:(Tryz.prog.info? 167).isSome=true:=by kernel_rfl
theorem Q9i:Qas Tryz.prog 167=some (6,48):=by kernel_rfl
theorem Q14:Tryz.prog.cellsOf 167=6:=by kernel_rfl
theorem Q9j:Qaw Tryz.prog 167=some (PV.agg [PV.int IntKind.i64 0,PV.int IntKind.i64 0,PV.int IntKind.i64 0,PV.int IntKind.i64 0,PV.int IntKind.i64 0,PV.int IntKind.i64 0]):=by kernel_rfl
theorem Ziv:Qgm Tryz.prog 167=some (6,3):=by kernel_rfl
theorem Q15:buildable Tryz.prog 167=true:=by kernel_rfl
theorem Ziw:Qad Tryz.prog 167 0=some (0,1):=by kernel_rfl
theorem Zix:Qad Tryz.prog 167 1=some (1,1):=by kernel_rfl
theorem Ziy:Qad Tryz.prog 167 2=some (2,1):=by kernel_rfl
theorem Ziz:Qad Tryz.prog 167 3=some (3,1):=by kernel_rfl
theorem Zi0:Qad Tryz.prog 167 4=some (4,1):=by kernel_rfl
theorem Zi1:Qad Tryz.prog 167 5=some (5,1):=by kernel_rfl
theorem Zi2:Qad Tryz.prog 167 6=some (6,1):=by kernel_rfl
theorem Zi3:Qad Tryz.prog 167 7=some (7,1):=by kernel_rfl
theorem Zi4:Qad Tryz.prog 167 8=some (8,1):=by kernel_rfl
theorem Zi5:Qad Tryz.prog 167 9=some (9,1):=by kernel_rfl
theorem Q9k:Qad Tryz.prog 167 10=some (10,1):=by kernel_rfl
theorem Q9l:Qad Tryz.prog 167 11=some (11,1):=by kernel_rfl
theorem Q9m:Qad Tryz.prog 167 12=some (12,1):=by kernel_rfl
theorem Q9n:Qad Tryz.prog 167 13=some (13,1):=by kernel_rfl
theorem Q9o:Qad Tryz.prog 167 14=some (14,1):=by kernel_rfl
theorem Q9p:Qad Tryz.prog 167 15=some (15,1):=by kernel_rfl
theorem Q9q:Qad Tryz.prog 167 16=some (16,1):=by kernel_rfl
theorem Q9r:Qad Tryz.prog 167 17=some (17,1):=by kernel_rfl
theorem Q9s:Qad Tryz.prog 167 18=some (18,1):=by kernel_rfl
theorem Q9t:Qad Tryz.prog 167 19=some (19,1):=by kernel_rfl
theorem Zsm:tyOk Tryz.prog 168=true:=by kernel_rfl
theorem Zi6:Qbf Tryz.prog 168=true:=by kernel_rfl
theorem Qwn:(Tryz.prog.info? 168).isSome=true:=by kernel_rfl
theorem Q9u:Qas Tryz.prog 168=some (36,288):=by kernel_rfl
theorem Q16:Tryz.prog.cellsOf 168=36:=by kernel_rfl
theorem Q9v:Qaw Tryz.prog 168=some (PV.agg [PV.int IntKind.i64 0,PV.int IntKind.i64 0,PV.int IntKind.i64 0,PV.int IntKind.i64 0,PV.int IntKind.i64 0,PV.int IntKind.i64 0,PV.int IntKind.i64 0,PV.int IntKind.i64 0,PV.int IntKind.i64 0,PV.int IntKind.i64 0,PV.int IntKind.i64 0,PV.int IntKind.i64 0,PV.int IntKind.i64 0,PV.int IntKind.i64 0,PV.int IntKind.i64 0,PV.int IntKind.i64 0,PV.int IntKind.i64 0,PV.int IntKind.i64 0,PV.int IntKind.i64 0,PV.int IntKind.i64 0,PV.int IntKind.i64 0,PV.int IntKind.i64 0,PV.int IntKind.i64 0,PV.int IntKind.i64 0,PV.int IntKind.i64 0,PV.int IntKind.i64 0,PV.int IntKind.i64 0,PV.int IntKind.i64 0,PV.int IntKind.i64 0,PV.int IntKind.i64 0,PV.int IntKind.i64 0,PV.int IntKind.i64 0,PV.int IntKind.i64 0,PV.int IntKind.i64 0,PV.int IntKind.i64 0,PV.int IntKind.i64 0]):=by kernel_rfl
theorem Zi7:Qgm Tryz.prog 168=some (6,167):=by kernel_rfl
theorem Q17:buildable Tryz.prog 168=true:=by kernel_rfl
theorem Zi8:Qad Tryz.prog 168 0=some (0,6):=by kernel_rfl
theorem Zi9:Qad Tryz.prog 168 1=some (6,6):=by kernel_rfl
theorem Zja:Qad Tryz.prog 168 2=some (12,6):=by kernel_rfl
theorem Zjb:Qad Tryz.prog 168 3=some (18,6):=by kernel_rfl
theorem Zjc:Qad Tryz.prog 168 4=some (24,6):=by kernel_rfl
theorem Zjd:Qad Tryz.prog 168 5=some (30,6):=by kernel_rfl
theorem Zje:Qad Tryz.prog 168 6=some (36,6):=by kernel_rfl
theorem Zjf:Qad Tryz.prog 168 7=some (42,6):=by kernel_rfl
theorem Zjg:Qad Tryz.prog 168 8=some (48,6):=by kernel_rfl
theorem Zjh:Qad Tryz.prog 168 9=some (54,6):=by kernel_rfl
theorem Q9w:Qad Tryz.prog 168 10=some (60,6):=by kernel_rfl
theorem Q9x:Qad Tryz.prog 168 11=some (66,6):=by kernel_rfl
theorem Q9y:Qad Tryz.prog 168 12=some (72,6):=by kernel_rfl
theorem Q9z:Qad Tryz.prog 168 13=some (78,6):=by kernel_rfl
theorem Q90:Qad Tryz.prog 168 14=some (84,6):=by kernel_rfl
theorem Q91:Qad Tryz.prog 168 15=some (90,6):=by kernel_rfl
theorem Q92:Qad Tryz.prog 168 16=some (96,6):=by kernel_rfl
theorem Q93:Qad Tryz.prog 168 17=some (102,6):=by kernel_rfl
theorem Q94:Qad Tryz.prog 168 18=some (108,6):=by kernel_rfl
theorem Q95:Qad Tryz.prog 168 19=some (114,6):=by kernel_rfl
theorem Zsn:tyOk Tryz.prog 177=true:=by kernel_rfl
theorem Zji:Qbf Tryz.prog 177=false:=by kernel_rfl
theorem Qwo:(Tryz.prog.info? 177).isSome=true:=by kernel_rfl
theorem Q96:Qas Tryz.prog 177=some (1,8):=by kernel_rfl
theorem Q18:Tryz.prog.cellsOf 177=1:=by kernel_rfl
theorem Zso:tyOk Tryz.prog 178=true:=by kernel_rfl
theorem Zjj:Qbf Tryz.prog 178=true:=by kernel_rfl
theorem Qwp:(Tryz.prog.info? 178).isSome=true:=by kernel_rfl
theorem Q97:Qas Tryz.prog 178=some (3,24):=by kernel_rfl
theorem Q19:Tryz.prog.cellsOf 178=3:=by kernel_rfl
theorem Zjk:Qgm Tryz.prog 178=some (3,177):=by kernel_rfl
theorem Q2a:buildable Tryz.prog 178=true:=by kernel_rfl
theorem Zjl:Qad Tryz.prog 178 0=some (0,1):=by kernel_rfl
theorem Zjm:Qad Tryz.prog 178 1=some (1,1):=by kernel_rfl
theorem Zjn:Qad Tryz.prog 178 2=some (2,1):=by kernel_rfl
theorem Zjo:Qad Tryz.prog 178 3=some (3,1):=by kernel_rfl
theorem Zjp:Qad Tryz.prog 178 4=some (4,1):=by kernel_rfl
theorem Zjq:Qad Tryz.prog 178 5=some (5,1):=by kernel_rfl
theorem Zjr:Qad Tryz.prog 178 6=some (6,1):=by kernel_rfl
theorem Zjs:Qad Tryz.prog 178 7=some (7,1):=by kernel_rfl
theorem Zjt:Qad Tryz.prog 178 8=some (8,1):=by kernel_rfl
theorem Zju:Qad Tryz.prog 178 9=some (9,1):=by kernel_rfl
theorem Q98:Qad Tryz.prog 178 10=some (10,1):=by kernel_rfl
theorem Q99:Qad Tryz.prog 178 11=some (11,1):=by kernel_rfl
theorem Zaa:Qad Tryz.prog 178 12=some (12,1):=by kernel_rfl
theorem Zab:Qad Tryz.prog 178 13=some (13,1):=by kernel_rfl
theorem Zac:Qad Tryz.prog 178 14=some (14,1):=by kernel_rfl
theorem Zad:Qad Tryz.prog 178 15=some (15,1):=by kernel_rfl
theorem Zae:Qad Tryz.prog 178 16=some (16,1):=by kernel_rfl
theorem Zaf:Qad Tryz.prog 178 17=some (17,1):=by kernel_rfl
theorem Zag:Qad Tryz.prog 178 18=some (18,1):=by kernel_rfl
theorem Zah:Qad Tryz.prog 178 19=some (19,1):=by kernel_rfl
theorem Zsp:tyOk Tryz.prog 184=true:=by kernel_rfl
theorem Zjv:Qbf Tryz.prog 184=false:=by kernel_rfl
theorem Qwq:(Tryz.prog.info? 184).isSome=true:=by kernel_rfl
theorem Zai:Qas Tryz.prog 184=some (1,8):=by kernel_rfl
theorem Q2b:Tryz.prog.cellsOf 184=1:=by kernel_rfl
theorem Zaj:Qaw Tryz.prog 184=some (PV.int IntKind.i64 0):=by kernel_rfl
theorem Zjw:Tryz.prog.underlying 184=some (.int .i64):=by kernel_rfl
theorem Zsq:tyOk Tryz.prog 194=true:=by kernel_rfl
theorem Zjx:Qbf Tryz.prog 194=false:=by kernel_rfl
theorem Qwr:(Tryz.prog.info? 194).isSome=true:=by kernel_rfl
theorem Zak:Qas Tryz.prog 194=some (1,24):=by kernel_rfl
theorem Q2c:Tryz.prog.cellsOf 194=1:=by kernel_rfl
theorem Zal:Qaw Tryz.prog 194=some PV.nilS:=by kernel_rfl
theorem Zam:Qbs Tryz.prog 194=some 5:=by kernel_rfl
theorem Qho:Tryz.prog.underlying 194=some (.slice 5):=by kernel_rfl
theorem Zan (es:List PV):Qbb Tryz.prog 194 (.slc es)=some (.int .i64 es.length):=by simp only [Qbb,Qho]
theorem Zao:Qbb Tryz.prog 194 .nilS=some (.int .i64 0):=by simp only [Qbb,Qho]
theorem Zap (b e o n:Nat):Qbb Tryz.prog 194 (.bs b e o n)=some (.int .i64 n):=by simp only [Qbb,Qho]
theorem Zsr:tyOk Tryz.prog 200=true:=by kernel_rfl
theorem Zjy:Qbf Tryz.prog 200=true:=by kernel_rfl
theorem Qws:(Tryz.prog.info? 200).isSome=true:=by kernel_rfl
theorem Zaq:Qas Tryz.prog 200=some (1,8):=by kernel_rfl
theorem Q2d:Tryz.prog.cellsOf 200=1:=by kernel_rfl
theorem Zar:Qaw Tryz.prog 200=some (PV.agg [PV.int IntKind.i64 0]):=by kernel_rfl
theorem Q2e:buildable Tryz.prog 200=true:=by kernel_rfl
theorem Zjz:Qa4 Tryz.prog 200 0=some (0,33,1):=by kernel_rfl
theorem Zj0:Qad Tryz.prog 200 0=some (0,1):=by kernel_rfl
theorem Zj1:Qcp Tryz.prog 200=some [1]:=by kernel_rfl
theorem Zss:tyOk Tryz.prog 202=true:=by kernel_rfl
theorem Zj2:Qbf Tryz.prog 202=true:=by kernel_rfl
theorem Qwt:(Tryz.prog.info? 202).isSome=true:=by kernel_rfl
theorem Zas:Qas Tryz.prog 202=some (1,8):=by kernel_rfl
theorem Q2f:Tryz.prog.cellsOf 202=1:=by kernel_rfl
theorem Zat:Qaw Tryz.prog 202=some (PV.agg [PV.int IntKind.i64 0]):=by kernel_rfl
theorem Q2g:buildable Tryz.prog 202=true:=by kernel_rfl
theorem Zj3:Qa4 Tryz.prog 202 0=some (0,200,1):=by kernel_rfl
theorem Zj4:Qad Tryz.prog 202 0=some (0,1):=by kernel_rfl
theorem Zj5:Qcp Tryz.prog 202=some [1]:=by kernel_rfl
theorem Zst:tyOk Tryz.prog 209=true:=by kernel_rfl
theorem Zj6:Qbf Tryz.prog 209=false:=by kernel_rfl
theorem Qwu:(Tryz.prog.info? 209).isSome=true:=by kernel_rfl
theorem Zau:Qas Tryz.prog 209=some (1,16):=by kernel_rfl
theorem Q2h:Tryz.prog.cellsOf 209=1:=by kernel_rfl
theorem Zav:Qaw Tryz.prog 209=some PV.nilI:=by kernel_rfl
theorem Zsu:tyOk Tryz.prog 213=true:=by kernel_rfl
theorem Zj7:Qbf Tryz.prog 213=false:=by kernel_rfl
theorem Qwv:(Tryz.prog.info? 213).isSome=true:=by kernel_rfl
theorem Zaw:Qas Tryz.prog 213=some (1,8):=by kernel_rfl
theorem Q2i:Tryz.prog.cellsOf 213=1:=by kernel_rfl
theorem Zax:Qaw Tryz.prog 213=some PV.nilM:=by kernel_rfl
attribute [go_sem] Zy1 Zvy Q6v Zow Zex Zox Zvz Zy2 Zv0 Q6w Zoy Zey Zoz Zo0 Zy3 Zv1
attribute [go_sem] Q6x Zo1 Zez Zo2 Zv2 Zy4 Zv3 Q6y Zo3 Ze0 Zo4 Zmk Zo5 Zv4 Zo6 Q02
attribute [go_sem] Ze1 Q6z Ze2 Ze3 Qjc Ze4 Ze5 Ze6 Zv5 Zo7 Q03 Ze7 Q60 Ze8 Ze9 Qjd
attribute [go_sem] Zfa Zfb Zfc Zv6 Zo8 Q04 Zfd Q61 Zfe Zff Qje Zfg Zfh Zfi Zv7 Zo9
attribute [go_sem] Q05 Zfj Q62 Zfk Q63 Zpa Zpb Zpc Zpd Zpe Zpf Zv8 Zpg Q06 Zfl Q64
attribute [go_sem] Zfm Q65 Zph Zpi Zpj Zpk Zpl Zv9 Zpm Q07 Zfn Q66 Zfo Q67 Zpn Zpo
attribute [go_sem] Zpp Zpq Zpr Zwa Zps Q08 Zfp Q68 Zfq Zpt Zwb Zpu Q09 Zfr Q69 Zfs
attribute [go_sem] Zpv Zwc Zpw Q1a Zft
attribute [go_sem] Q7a Zfu Zwd Zpx Q1b Zfv Q7b Zfw Q7c Zpy Zpz Zp0 Zp1 Zp2 Zp3 Zp4
attribute [go_sem] Zwe Zp5 Q1c Zfx Q7d Zfy Zfz Qjf Zf0 Zf1 Zf2 Zwf Zp6 Q1d Zf3 Q7e
attribute [go_sem] Zf4 Zf5 Qjg Zf6 Zf7 Zf8 Zwg Zp7 Q1e Zf9 Q7f Zga Zgb Qjh Zgc Zgd
attribute [go_sem] Zge Zwh Zp8 Q1f Zgf Q7g Zgg Q7h Zp9 Zqa Zqb Zqc Zqd Zqe Zwi Zqf
attribute [go_sem] Q1g Zgh Q7i Zgi Zgj Qji Zgk Zgl Zgm Zwj Zqg Q1h Zgn Q7j Zgo Zgp
attribute [go_sem] Qjj Zgq Zgr Zgs Zwk Zqh Q1i Zgt Q7k Zgu Q7l Zqi Zqj Zqk Zql Zqm
attribute [go_sem] Zqn Zqo Zqp Zqq Zwl Zqr Q1j Zgv Q7m Zgw Q7n Zqs Zqt Zqu Zqv Zqw
attribute [go_sem] Zqx Zqy Zqz Zq0 Zq1 Zq2 Zq3 Zwm Zq4 Q1k Zgx Q7o Zgy Q7p Zq5 Zq6
attribute [go_sem] Zq7 Zq8 Zq9 Zwn Zra Q1l Zgz Q7q Zg0 Q7r Zrb Zrc Zrd Zre Zrf Zrg
attribute [go_sem] Zrh Zri Zrj Zwo Zrk Q1m Zg1 Q7s Zg2 Zrl Q7t Zrm Zrn Zro Zrp Zrq
attribute [go_sem] Zrr Zrs Zrt Zru Zrv Zg3 Zg4 Zg5 Zg6 Zg7 Zg8 Zg9 Zha Zhb Zhc Zwp
attribute [go_sem] Zrw Q1n Zhd Q7u Zhe Zrx Q7v Zry Zrz Zr0 Zr1 Zr2 Zr3 Zr4 Zr5 Zr6
attribute [go_sem] Zr7 Zhf Zhg Zhh Zhi Zhj Zhk Zhl Zhm Zhn Zho Zr8 Zhp Qv9 Q7w Q1o
attribute [go_sem] Q7x Zr9 Zhq Qwa Q7y Q1p Q7z Zsa Zhr Qwb Q70 Q1q Q71 Zsb Zhs Qwc
attribute [go_sem] Q72 Q1r Q73 Zsc Zht Qwd Q74 Q1s Q75 Zsd Zhu Qwe Q76 Q1t Q77 Q78
attribute [go_sem] Qhl Q79 Q8a Q8b Zse Zhv Qwf Q8c Q1u Q8d Q1v Zhw Zhx Zhy Zhz Zsf
attribute [go_sem] Zh0 Qwg Q8e Q1w Q8f Zh1 Zsg Zh2 Qwh Q8g Q1x Q8h Zh3 Q1y Zh4 Zh5
attribute [go_sem] Zh6 Zh7 Zh8 Zh9 Zia Zib Zic Zid Q8i Q8j Q8k Q8l Q8m Q8n Q8o Q8p
attribute [go_sem] Q8q Q8r Zsh Zie Qwi Q8s Q1z Q8t Zif Zsi Zig Qwj Q8u Q10 Q8v Q8w
attribute [go_sem] Qhm Q8x Q8y Q8z Zsj Zih Qwk Q80 Q11 Q81 Q82 Qhn Q83 Q84 Q85 Zsk
attribute [go_sem] Zii Qwl Q86 Q12 Q87 Zij Q13 Zik Zil Zim Zin Zio Zip Ziq Zir Zis
attribute [go_sem] Zit Q88 Q89 Q9a Q9b Q9c Q9d Q9e Q9f Q9g Q9h Zsl Ziu Qwm Q9i Q14
attribute [go_sem] Q9j Ziv Q15 Ziw Zix Ziy Ziz Zi0 Zi1 Zi2 Zi3 Zi4 Zi5 Q9k Q9l Q9m
attribute [go_sem] Q9n Q9o Q9p Q9q Q9r Q9s Q9t Zsm Zi6 Qwn Q9u Q16 Q9v Zi7 Q17 Zi8
attribute [go_sem] Zi9 Zja Zjb Zjc Zjd Zje Zjf Zjg Zjh Q9w Q9x Q9y Q9z Q90 Q91 Q92
attribute [go_sem] Q93 Q94 Q95 Zsn Zji Qwo Q96 Q18 Zso Zjj Qwp Q97 Q19 Zjk Q2a Zjl
attribute [go_sem] Zjm Zjn Zjo Zjp Zjq Zjr Zjs Zjt Zju Q98 Q99 Zaa Zab Zac Zad Zae
attribute [go_sem] Zaf Zag Zah Zsp Zjv Qwq Zai Q2b Zaj Zjw Zsq Zjx Qwr Zak Q2c Zal
attribute [go_sem] Zam Qho Zan Zao Zap Zsr Zjy Qws Zaq Q2d Zar Q2e Zjz Zj0 Zj1 Zss
attribute [go_sem] Zj2 Qwt Zas Q2f Zat Q2g Zj3 Zj4 Zj5 Zst Zj6 Qwu Zau Q2h Zav Zsu
attribute [go_sem] Zj7 Qwv Zaw Q2i Zax
end Go.Proofs.YtjlkapdmgjocdaaGreat

namespace Go.Dg

/-! ### sums -/
/-- The sum of the first n values. -/
def sm (f:Nat→Int):Nat→Int
  |0=>0
  |n+1=>sm f n+f n
theorem Qa9 {f g:Nat→Int}: ∀(n:Nat),(∀i,i<n→f i=g i)→sm f n=sm g n
  |0,_=>rfl
  |n+1,h=>by rw [sm,sm,Qa9 n (fun i hi=>h i (Nat.lt_succ_of_lt hi)),h n (Nat.lt_succ_self n)]
theorem Qmz {f:Nat→Int}: ∀(n:Nat),(∀i,i<n→f i=0)→sm f n=0
  |0,_=>rfl
  |n+1,h=>by rw [sm,Qmz n (fun i hi=>h i (Nat.lt_succ_of_lt hi)),h n (Nat.lt_succ_self n)];rfl
theorem Qs5 (f g:Nat→Int): ∀n,sm (fun i=>f i+g i) n=sm f n+sm g n
  |0=>rfl
  |n+1=>by simp only [sm,Qs5 f g n];omega
theorem Qc6 (c:Int) (f:Nat→Int): ∀n,sm (fun i=>c*f i) n=c*sm f n
  |0=>by simp [sm]
  |n+1=>by simp only [sm,Qc6 c f n,Int.mul_add]
theorem Qi2 (f:Nat→Int): ∀n,sm f (n+1)=f 0+sm (fun i=>f (i+1)) n
  |0=>by simp [sm]
  |n+1=>by rw [sm,Qi2 f n,sm];omega
theorem Q4o (f:Nat→Int) {n m:Nat} (h:n≤m) (hz: ∀i,n≤i→i<m→f i=0):sm f m=sm f n:=by
  induction m with
  |zero=>
        obtain rfl:n=0:=by omega
        rfl
  |succ m ih=>
    rcases Nat.lt_or_eq_of_le h with h1|h1
    · rw [sm,ih (by omega) (fun i a b=>hz i a (by omega)),hz m (by omega) (by omega),Int.add_zero]
    · rw [h1]
theorem Q4p (g:Nat→Nat→Int): ∀n,sm (fun j=>sm (fun i=>g i j) (j+1)) n=sm (fun i=>sm (fun k=>g i (i+k)) (n-i)) n
  |0=>rfl
  |n+1=>by
    rw [sm,Q4p g n];have h1:sm (fun i=>sm (fun k=>g i (i+k)) (n+1-i)) n=sm (fun i=>sm (fun k=>g i (i+k)) (n-i)+g i n) n:=
      Qa9 n fun i hi=>by
        have e:n+1-i=(n-i)+1:=by omega
        have e2:i+(n-i)=n:=by omega
        rw [e,sm,e2]
    have e3:n+1-n=1:=by omega
    rw [sm,sm,h1,Qs5,e3];simp only [sm,Nat.add_zero,Int.zero_add];omega
theorem Q4q (f:Nat→Nat→Int) (m:Nat): ∀n,sm (fun i=>sm (fun j=>f i j) m) n=sm (fun j=>sm (fun i=>f i j) n) m
  |0=>(Qmz m (fun _ _=>rfl)).symm
  |n+1=>by rw [sm,Q4q f m n,←Qs5];rfl
theorem Q4r {f g:Nat→Int}: ∀(n:Nat),(∀i,i<n→f i≤g i)→sm f n≤sm g n
  |0,_=>Int.le_refl 0
  |n+1,h=>Int.add_le_add (Q4r n fun i hi=>h i (Nat.lt_succ_of_lt hi)) (h n (Nat.lt_succ_self n))

/-! ### binomials -/
/-- The number of ways to choose k of n elements. -/
def bin:Nat→Nat→Nat
  |_,0=>1
  |0,_+1=>0
  |n+1,k+1=>bin n k+bin n (k+1)
theorem Ql7 (n:Nat):bin n 0=1:=by cases n<;>rfl
theorem Q4s: ∀{n k:Nat},n<k→bin n k=0
  |0,0,h=>absurd h (Nat.lt_irrefl 0)
  |0,_+1,_=>rfl
  |n+1,0,h=>absurd h (Nat.not_lt_zero _)
  |n+1,k+1,h=>by rw [bin,Q4s (by omega),Q4s (by omega)]
theorem Qvp: ∀{n k:Nat},k≤n→0<bin n k
  |_,0,_=>by rw [Ql7];decide
  |0,k+1,h=>absurd h (by omega)
  |n+1,k+1,h=>by rw [bin];have:=Qvp (n:=n) (k:=k) (by omega);omega
theorem Qkf: ∀(n k:Nat),bin n k≤2^n
  |0,0=>by decide
  |0,_+1=>by simp [bin]
  |n+1,0=>by rw [Ql7];exact Nat.pow_pos (by decide)
  |n+1,k+1=>by rw [bin,Nat.pow_succ];have:=Qkf n k;have:=Qkf n (k+1);omega
theorem Qlw (x:Int) (n:Nat):x^(n+1)=x*x^n:=by rw [Int.pow_succ,Int.mul_comm]
/-- The power of a sum. -/
theorem Qm0 (a b:Int): ∀n,sm (fun k=>(bin n k:Int)*(a^k*b^(n-k))) (n+1)=(a+b)^n
  |0=>by simp [sm,bin]
  |n+1=>by
    have ih:=Qm0 a b n;rw [Qi2];have h1:sm (fun k=>(bin (n+1) (k+1):Int)*(a^(k+1)*b^(n+1-(k+1)))) (n+1)
        =sm (fun k=>a*((bin n k:Int)*(a^k*b^(n-k)))+(bin n (k+1):Int)*(a^(k+1)*b^(n-k))) (n+1):=
      Qa9 _ fun k _=>by
        have e:n+1-(k+1)=n-k:=by omega
        rw [e,bin,Int.natCast_add,Int.add_mul,Qlw];congr 1;rw [Int.mul_assoc,Int.mul_left_comm]
    rw [h1,Qs5,Qc6,ih];have h2:sm (fun k=>(bin n (k+1):Int)*(a^(k+1)*b^(n-k))) (n+1)=sm (fun k=>b*((bin n (k+1):Int)*(a^(k+1)*b^(n-(k+1))))) n:=by
      rw [sm,Q4s (Nat.lt_succ_self n),Int.natCast_zero,Int.zero_mul,Int.add_zero];refine Qa9 _ fun k hk=> ?_;have e:n-k=(n-(k+1))+1:=by omega
      rw [e,Qlw b];simp only [Int.mul_comm,Int.mul_left_comm,Int.mul_assoc]
    have h3:=Qi2 (fun k=>(bin n k:Int)*(a^k*b^(n-k))) n;rw [ih]at h3;rw [h2,Qc6,Ql7];rw [Ql7]at h3;simp only [Int.pow_zero,Int.one_mul,Nat.sub_zero,Int.natCast_one]at h3 ⊢;rw [Qlw,Qlw,Int.add_mul,h3];simp only [Int.mul_add];omega

/-! ### polynomials by their values -/
/-- A polynomial at x/y,times y to the power of its degree. -/
def hev:List Int→Int→Int→Int
  | [],_,_=>0
  |c::r,x,y=>c*y^r.length+x*hev r x y
theorem Qgh: ∀(p:List Int) (x y:Int),hev p x y=sm (fun i=>p.getD i 0*(x^i*y^(p.length-1-i))) p.length
  | [],_,_=>rfl
  |c::r,x,y=>by
    rw [hev,List.length_cons,Qi2,Qgh r x y,←Qc6];congr 1
    · simp
    · refine Qa9 _ fun i hi=> ?_;have e:r.length+1-1-(i+1)=r.length-1-i:=by omega
      rw [e,Qlw,List.getD_cons_succ];simp only [Int.mul_comm,Int.mul_left_comm,Int.mul_assoc]
/-- Lists of equal length with equal values are equal. -/
theorem Ql8: ∀{p q:List Int},p.length=q.length→(∀x:Int,1≤x→hev p x 1=hev q x 1)→p=q
  | [],[],_,_=>rfl
  | [],_::_,h,_=>by simp at h
  |_::_,[],h,_=>by simp at h
  |a::p,b::q,hl,h=>by
    simp only [hev,Int.one_pow,Int.mul_one]at h;have hab:a=b:=by
      have h1:=h ((a-b).natAbs+1) (by omega);generalize hev p _ 1=A at h1;generalize hev q _ 1=B at h1;have h2:a-b=(((a-b).natAbs:Int)+1)*(B-A):=by rw [Int.mul_sub];omega
      have h3:(((a-b).natAbs:Int)+1)∣(a-b):=⟨_,h2⟩;have h4:=Int.natAbs_dvd_natAbs.2 h3;rcases Nat.eq_zero_or_pos (a-b).natAbs with h0|h0
      · omega
      · have:=Nat.le_of_dvd h0 h4;omega
    subst hab;congr 1;refine Ql8 (by simpa using hl) fun x hx=> ?_;have h1:=h x hx;have h2:x*hev p x 1=x*hev q x 1:=by omega
    exact Int.eq_of_mul_eq_mul_left (by omega) h2
/-- A list of sums of products,at two values. -/
theorem Ql9 (F:Nat→Int) (n:Nat) (x y:Int):hev ((List.range (n+1)).map F) x y=sm (fun j=>F j*(x^j*y^(n-j))) (n+1):=by
  rw [Qgh];simp only [List.length_map,List.length_range];refine Qa9 _ fun j hj=> ?_;rw [List.getD_eq_getElem?_getD];simp [hj]

/-- The list whose value at x,y is the sum of f i x^i (c x+y)^(n-i). -/
def trans (f:List Int) (c:Int) (n:Nat):List Int:=(List.range (n+1)).map fun j=>sm (fun i=>f.getD i 0*(c^(j-i)*(bin (n-i) (j-i):Int))) (j+1)
theorem Qe8 (f:List Int) (c:Int) (n:Nat):(trans f c n).length=n+1:=by simp [trans]
theorem Qi3 (a b:Int): ∀n:Nat,(a*b)^n=a^n*b^n
  |0=>by simp
  |n+1=>by rw [Qlw,Qlw,Qlw,Qi3 a b n];simp only [Int.mul_comm,Int.mul_left_comm,Int.mul_assoc]
theorem Qid (c:Int) (f:Nat→Int) (n:Nat):sm (fun i=>f i*c) n=sm f n*c:=by
  rw [Int.mul_comm,←Qc6];exact Qa9 n fun i _=>Int.mul_comm _ _
theorem Q4t (f:List Int) (c:Int) (n:Nat) (x y:Int):hev (trans f c n) x y=sm (fun i=>f.getD i 0*(x^i*(c*x+y)^(n-i))) (n+1):=by
  rw [trans,Ql9];have h1:sm (fun j=>sm (fun i=>f.getD i 0*(c^(j-i)*(bin (n-i) (j-i):Int))) (j+1)*(x^j*y^(n-j))) (n+1)
      =sm (fun j=>sm (fun i=>f.getD i 0*(c^(j-i)*(bin (n-i) (j-i):Int))*(x^j*y^(n-j))) (j+1)) (n+1):=
    Qa9 _ fun j _=>(Qid _ _ _).symm
  rw [h1,Q4p (fun i j=>f.getD i 0*(c^(j-i)*(bin (n-i) (j-i):Int))*(x^j*y^(n-j)))];refine Qa9 _ fun i hi=> ?_;have e:n+1-i=(n-i)+1:=by omega
  rw [←Qm0 (c*x) y (n-i),e,←Qc6,←Qc6];refine Qa9 _ fun k hk=> ?_;have e1:i+k-i=k:=by omega
  have e2:n-(i+k)=n-i-k:=by omega
  rw [e1,e2,Qi3,Int.pow_add];simp only [Int.mul_comm,Int.mul_left_comm,Int.mul_assoc]
theorem Znc {f:List Int} {n:Nat} (h:f.length≤n+1) (x s:Int):sm (fun i=>f.getD i 0*(x^i*s^(n-i))) (n+1)=s^(n+1-f.length)*hev f x s:=by
  rw [Q4o _ h (fun i h1 _=>by rw [List.getD_eq_getElem?_getD,List.getElem?_eq_none h1];simp),Qgh,←Qc6];refine Qa9 _ fun i hi=> ?_;have e:n-i=(n+1-f.length)+(f.length-1-i):=by omega
  rw [e,Int.pow_add];simp only [Int.mul_comm,Int.mul_left_comm,Int.mul_assoc]
theorem Q0p {f:List Int} {n:Nat} (h:f.length≤n+1) (c x y:Int):hev (trans f c n) x y=(c*x+y)^(n+1-f.length)*hev f x (c*x+y):=by
  rw [Q4t,Znc h]
theorem Qfl {f:List Int} {n:Nat} (h:f.length=n+1) (c x y:Int):hev (trans f c n) x y=hev f x (c*x+y):=by
  rw [Q0p (by omega),h,Nat.sub_self,Int.pow_zero,Int.one_mul]
/-- Each value times a power. -/
def Zuh (b:Int) (n:Nat) (f:List Int):List Int:=(List.range (n+1)).map fun j=>f.getD j 0*b^(n-j)
end Go.Dg

namespace Go.Dg
def upto (F:Nat→Int) (N j:Nat):List Int:=(List.range N).map fun m=>if m<j then F m else 0
theorem Qfx (F:Nat→Int) (N j:Nat):(upto F N j).length=N:=by simp [upto]
theorem Q4u (F:Nat→Int) (N:Nat):upto F N 0=List.replicate N 0:=by
 refine List.ext_getElem? fun i=> ?_;simp only [upto,List.getElem?_map,List.getElem?_replicate,Nat.not_lt_zero,if_false];by_cases h:i<N
 ·simp [h]
 ·simp [h]
theorem Qyo (F:Nat→Int) (N j i:Nat) (h:i<N):(upto F N j)[i]? =some (if i<j then F i else 0):=by
 simp [upto,h]
theorem Zde (F:Nat→Int) (N j:Nat) (h:j<N):(upto F N j).set j (F j)=upto F N (j+1):=by
 refine List.ext_getElem? fun i=> ?_;rw [List.getElem?_set];by_cases hi:i<N
 ·rw [Qyo _ _ _ _ hi,Qyo _ _ _ _ hi,Qfx];by_cases e:j=i
  ·subst e;simp [h]
  ·rw [if_neg e];congr 1;by_cases h1:i<j
   ·rw [if_pos h1,if_pos (by omega)]
   ·rw [if_neg h1,if_neg (by omega)]
 ·have e1:(upto F N j)[i]? =none:=List.getElem?_eq_none (by rw [Qfx];omega);have e2:(upto F N (j+1))[i]? =none:=List.getElem?_eq_none (by rw [Qfx];omega);rw [e1,e2,if_neg (by omega)]
theorem Q4v (F:Nat→Int) (N j:Nat) (h:N≤j):upto F N j=(List.range N).map F:=by
 refine List.map_congr_left fun m hm=> ?_;rw [if_pos (Nat.lt_of_lt_of_le (List.mem_range.1 hm) h)]
theorem Zlz {f:Nat→Int} {C:Nat}: ∀(m:Nat),(∀i,i<m→(f i).natAbs≤C)→(sm f m).natAbs≤m*C
 |0,_=>by simp [sm]
 |m+1,h=>by
  have h1:=Zlz m (fun i hi=>h i (by omega));have h2:=h m (Nat.lt_succ_self m);rw [sm,Nat.succ_mul];omega
theorem Zdf {xs:List Int} {B:Nat} (h: ∀x∈xs,x.natAbs<2^B) (i:Nat):(xs.getD i 0).natAbs<2^B:=by
 rw [List.getD_eq_getElem?_getD];cases e:xs[i]? with
 |none=>exact Nat.pow_pos (by decide)
 |some x=>exact h x (List.mem_of_getElem? e)
def Qdh (bl:Nat→Nat) (xs:List Int):Nat:=xs.foldl (fun n x=>if n<bl x.natAbs then bl x.natAbs else n) 0
theorem Q0q (bl:Nat→Nat) (xs:List Int) (x:Int):Qdh bl (xs++[x])=if Qdh bl xs<bl x.natAbs then bl x.natAbs else Qdh bl xs:=by
 rw [Qdh,List.foldl_append];rfl
theorem Qk8 (bl:Nat→Nat) (C:Nat): ∀(xs:List Int) (a:Nat),a≤C→(∀x∈xs,bl x.natAbs≤C)→xs.foldl (fun n x=>if n<bl x.natAbs then bl x.natAbs else n) a≤C
 | [],a,ha,_=>ha
 |x::xs,a,ha,h=>by
  rw [List.foldl_cons];refine Qk8 bl C xs _ ?_ fun y hy=>h y (by simp [hy]);split
  ·exact h x (by simp)
  ·exact ha
theorem Qyp {bl:Nat→Nat} {xs:List Int} {C:Nat} (h: ∀x∈xs,bl x.natAbs≤C):Qdh bl xs≤C:=Qk8 bl C xs 0 (Nat.zero_le _) h
end Go.Dg

namespace Go.Dg
def Qaq:List Int→List Int
 | []=>[]
 |c::r=>match Qaq r with
  | []=>if c=0 then []else [c]
  |d::t=>c::d::t
theorem Qb0 (c:Int) (r:List Int):Qaq (c::r)=if Qaq r=[]then(if c=0 then []else [c])else c::Qaq r:=by
 rw [Qaq];cases h:Qaq r<;>simp
theorem Qie: ∀l:List Int,Qaq (l++[0])=Qaq l
 | []=>rfl
 |c::r=>by rw [List.cons_append,Qb0,Qie r,Qb0]
theorem Qkg: ∀(l:List Int) (c:Int),c≠0→Qaq (l++[c])=l++[c]
 | [],c,h=>by simp [Qaq,h]
 |a::r,c,h=>by rw [List.cons_append,Qb0,Qkg r c h,if_neg (by simp)]
theorem Qbl: ∀l:List Int,(Qaq l).length≤l.length
 | []=>Nat.le_refl _
 |c::r=>by
  have:=Qbl r;rw [Qb0];split
  ·split<;>simp
  ·simp only [List.length_cons];omega
theorem Qi4 {l:List Int} {x:Int} (h:x∈Qaq l):x∈l:=by
 induction l with
 |nil=>exact h
 |cons c r ih=>
  rw [Qb0]at h;split at h
  ·split at h
   ·cases h
   ·simp at h;simp [h]
  ·rcases List.mem_cons.1 h with rfl|h
   ·simp
   ·exact List.mem_cons_of_mem _ (ih h)
theorem Qhg: ∀l:List Int,Qaq (Qaq l)=Qaq l
 | []=>rfl
 |c::r=>by
  have ih:=Qhg r;rw [Qb0];split
  ·split
   ·rfl
   ·rename_i h;simp [Qaq,h]
  ·rename_i h;rw [Qb0,ih,if_neg h]
def ev:List Int→Int→Int
 | [],_=>0
 |c::r,u=>c+u*ev r u
theorem Q4w: ∀(p:List Int) (u:Int),ev p u=hev p u 1
 | [],_=>rfl
 |c::r,u=>by rw [ev,hev,Q4w r u,Int.one_pow,Int.mul_one]
theorem Qe9: ∀(p:List Int) (u:Int),ev (Qaq p) u=ev p u
 | [],_=>rfl
 |c::r,u=>by
  have ih:=Qe9 r u;rw [Qb0];split
  ·rename_i h;rw [h]at ih;have h0:ev r u=0:=ih.symm;split
   ·rename_i hc;rw [ev,ev,h0,hc];simp
   ·rw [ev,ev,ev,h0]
  ·rw [ev,ev,ih]
theorem Qvq: ∀(p:List Int),(∀u:Int,1≤u→ev p u=0)→Qaq p=[]
 | [],_=>rfl
 |c::r,h=>by
  have hc:c=0:=by
   have h1:=h (c.natAbs+1) (by omega);rw [ev]at h1;generalize ev r _=A at h1;have h2:c=((c.natAbs:Int)+1)*(-A):=by rw [Int.mul_neg];omega
   have h3:((c.natAbs:Int)+1)∣c:=⟨_,h2⟩;have h4:=Int.natAbs_dvd_natAbs.2 h3;rcases Nat.eq_zero_or_pos c.natAbs with h0|h0
   ·omega
   ·have:=Nat.le_of_dvd h0 h4;omega
  subst hc;rw [Qb0,Qvq r ?_]
  ·rfl
  ·intro u hu;have:=h u hu;rw [ev,Int.zero_add]at this;rcases Int.mul_eq_zero.1 this with h|h
   ·omega
   ·exact h
theorem Qvr: ∀(p q:List Int),(∀u:Int,1≤u→ev p u=ev q u)→Qaq p=Qaq q
 | [],q,h=>(Qvq q fun u hu=>(h u hu).symm).symm
 |p,[],h=>Qvq p h
 |a::p,b::q,h=>by
  have hab:a=b:=by
   have h1:=h ((a-b).natAbs+1) (by omega);rw [ev,ev]at h1;generalize ev p _=A at h1;generalize ev q _=B at h1;have h2:a-b=(((a-b).natAbs:Int)+1)*(B-A):=by rw [Int.mul_sub];omega
   have h3:(((a-b).natAbs:Int)+1)∣(a-b):=⟨_,h2⟩;have h4:=Int.natAbs_dvd_natAbs.2 h3;rcases Nat.eq_zero_or_pos (a-b).natAbs with h0|h0
   ·omega
   ·have:=Nat.le_of_dvd h0 h4;omega
  subst hab;have ih:=Qvr p q fun u hu=>by
   have h1:=h u hu;rw [ev,ev]at h1;exact Int.eq_of_mul_eq_mul_left (a:=u) (by omega) (by omega)
  rw [Qb0,Qb0,ih]
theorem Q4x (p:List Int) (u:Int) {N:Nat} (h:p.length≤N):ev p u=sm (fun i=>p.getD i 0*u^i) N:=by
 rw [Q4w,Qgh,Q4o _ h (fun i h1 _=>by rw [List.getD_eq_getElem?_getD,List.getElem?_eq_none h1];simp)];exact Qa9 _ fun i _=>by rw [Int.one_pow,Int.mul_one]
theorem Qm1 (F:Nat→Int) (N i:Nat):((List.range N).map F).getD i 0=if i<N then F i else 0:=by
 rw [List.getD_eq_getElem?_getD,List.getElem?_map];by_cases h:i<N
 ·simp [h]
 ·rw [List.getElem?_eq_none (by simpa using h),if_neg h];rfl
theorem Q4y (F:Nat→Int) (N:Nat) (u:Int):ev ((List.range N).map F) u=sm (fun i=>F i*u^i) N:=by
 rw [Q4x _ u (N:=N) (by simp)];exact Qa9 _ fun i hi=>by rw [Qm1,if_pos hi]
def zipA (p q:List Int):List Int:=(List.range (max p.length q.length)).map fun i=>p.getD i 0+q.getD i 0
def pAdd (p q:List Int):List Int:=Qaq (zipA p q)
def Qef (p:List Int) (c:Int):List Int:=Qaq (p.map (· *c))
def conv (p q:List Int):List Int:=(List.range (p.length+q.length-1)).map fun i=>sm (fun k=>p.getD k 0*q.getD (i-k) 0) (i+1)
def pMul (p q:List Int):List Int:=Qaq (conv p q)
def pPow (p:List Int):Nat→List Int
 |0=>Qaq [1]
 |n+1=>pMul (pPow p n) p
theorem Q4z (p q:List Int) (u:Int):ev (pAdd p q) u=ev p u+ev q u:=by
 rw [pAdd,Qe9,zipA,Q4y,Q4x p u (N:=max p.length q.length) (Nat.le_max_left _ _),Q4x q u (N:=max p.length q.length) (Nat.le_max_right _ _),←Qs5];exact Qa9 _ fun i _=>Int.add_mul _ _ _
theorem Qm2 (p:List Int) (c u:Int):ev (Qef p c) u=ev p u*c:=by
 rw [Qef,Qe9]
 induction p with
 |nil=>simp [ev]
 |cons a r ih=>rw [List.map_cons,ev,ev,ih,Int.add_mul,Int.mul_assoc]
theorem Znd (p q:List Int) (u:Int):ev (pMul p q) u=ev p u*ev q u:=by
 rw [pMul,Qe9,conv,Q4y];have h1:sm (fun i=>sm (fun k=>p.getD k 0*q.getD (i-k) 0) (i+1)*u^i) (p.length+q.length-1)
   =sm (fun i=>sm (fun k=>p.getD k 0*q.getD (i-k) 0*u^i) (i+1)) (p.length+q.length-1):=Qa9 _ fun i _=>(Qid _ _ _).symm
 rw [h1,Q4p (fun k i=>p.getD k 0*q.getD (i-k) 0*u^i)];rcases Nat.eq_zero_or_pos q.length with hq|hq
 ·have e:q=[]:=List.length_eq_zero_iff.1 hq;subst e;rw [Qmz _ fun i _=>Qmz _ fun k _=>by simp];simp [ev]
 ·have hN:p.length≤p.length+q.length-1:=by omega
  rw [Q4x p u hN,←Qid];refine Qa9 _ fun i hi=> ?_;by_cases hip:i<p.length
  ·rw [Q4x q u (N:=p.length+q.length-1-i) (by omega),←Qc6];refine Qa9 _ fun k _=> ?_;rw [show i+k-i=k by omega,Int.pow_add];simp only [Int.mul_comm,Int.mul_left_comm,Int.mul_assoc]
  ·have e:p.getD i 0=0:=by rw [List.getD_eq_getElem?_getD,List.getElem?_eq_none (by omega)];rfl
   rw [Qmz _ fun k _=>by rw [e,Int.zero_mul,Int.zero_mul],e,Int.zero_mul,Int.zero_mul]
theorem Zui (u:Int):ev (Qaq [1]) u=1:=by rw [Qe9];simp [ev]
theorem Q40 (p:List Int) (u:Int): ∀n,ev (pPow p n) u=ev p u^n
 |0=>by rw [pPow,Zui,Int.pow_zero]
 |n+1=>by rw [pPow,Znd,Q40 p u n,Int.pow_succ]
theorem Qvs (p q:List Int):(zipA p q).length=max p.length q.length:=by simp [zipA]
theorem Qvt (p q:List Int):(conv p q).length=p.length+q.length-1:=by simp [conv]
theorem Qvu (p q:List Int):(pAdd p q).length≤max p.length q.length:=by rw [←Qvs];exact Qbl _
theorem Qi5 (p:List Int) (c:Int):(Qef p c).length≤p.length:=by rw [Qef];exact Nat.le_trans (Qbl _) (by simp)
theorem Qvv (p q:List Int):(pMul p q).length≤p.length+q.length-1:=by rw [←Qvt];exact Qbl _
theorem Qif {p:List Int} {m:Nat} (h:p.length≤m+1): ∀n,(pPow p n).length≤m*n+1
 |0=>by simp [pPow,Qaq]
 |n+1=>by
  have h1:=Qvv (pPow p n) p;have h2:=Qif h n;rw [pPow,Nat.mul_succ];omega
def bd (B:Nat) (p:List Int):Prop:= ∀x∈p,x.natAbs<2^B
theorem Qm3 {B C:Nat} {p:List Int} (h:bd B p) (hc:B≤C):bd C p:=fun x hx=>Nat.lt_of_lt_of_le (h x hx) (Nat.pow_le_pow_right (by decide) hc)
theorem Qfa {B:Nat} {p:List Int} (h:bd B p):bd B (Qaq p):=fun x hx=>h x (Qi4 hx)
theorem Qex {B:Nat} {p:List Int} (h:bd B p) (i:Nat):(p.getD i 0).natAbs<2^B:=Zdf h i
theorem Zne {B:Nat} {p q:List Int} (hp:bd B p) (hq:bd B q):bd (B+1) (pAdd p q):=by
 refine Qfa fun x hx=> ?_;obtain⟨i,_,rfl⟩:=List.mem_map.1 hx;have h1:=Qex hp i;have h2:=Qex hq i;rw [Nat.pow_succ];generalize 2^B=K at*;omega
theorem Qs6 {B C:Nat} {p:List Int} {c:Int} (hp:bd B p) (hc:c.natAbs<2^C):bd (B+C) (Qef p c):=by
 refine Qfa fun x hx=> ?_;obtain⟨y,hy,rfl⟩:=List.mem_map.1 hx;rw [Int.natAbs_mul,Nat.pow_add];exact Nat.mul_lt_mul'' (hp y hy) hc
theorem Qvw {f:Nat→Int} {B m:Nat} (hm:m≤64) (h: ∀i,i<m→(f i).natAbs<2^B):(sm f m).natAbs<2^(B+7):=by
 have h1:=Zlz m (fun i hi=>Nat.le_of_lt (h i hi));have h2:m*2^B≤64*2^B:=Nat.mul_le_mul_right _ hm;have hp:0<2^B:=Nat.pow_pos (by decide);rw [Nat.pow_add,show(2:Nat)^7=128 from rfl];omega
theorem Znf {B C:Nat} {p q:List Int} (hp:bd B p) (hq:bd C q) (hl:p.length+q.length≤64) (i m:Nat) (hm:m≤i+1) (hi:i<p.length+q.length-1):
  (sm (fun k=>p.getD k 0*q.getD (i-k) 0) m).natAbs<2^(B+C+7):=
 Qvw (by omega) fun k _=>by
  rw [Int.natAbs_mul,Nat.pow_add];exact Nat.mul_lt_mul'' (Qex hp k) (Qex hq (i-k))
theorem Zng {B C:Nat} {p q:List Int} (hp:bd B p) (hq:bd C q) (hl:p.length+q.length≤64):bd (B+C+7) (pMul p q):=by
 refine Qfa fun x hx=> ?_;obtain⟨i,hi,rfl⟩:=List.mem_map.1 hx;exact Znf hp hq hl i (i+1) (Nat.le_refl _) (List.mem_range.1 hi)
theorem Q41 {B m:Nat} {p:List Int} (hp:bd B p) (hl:p.length≤m+1): ∀n,m*n+m≤62→bd ((B+7)*n+1) (pPow p n)
 |0,_=>by intro x hx;simp [pPow,Qaq]at hx;subst hx;simp
 |n+1,h=>by
  have ih:=Q41 hp hl n (by rw [Nat.mul_succ]at h;omega);have h1:=Qif hl n;have:=Zng ih hp (by rw [Nat.mul_succ]at h;omega);refine Qm3 this ?_;rw [Nat.mul_succ];omega
def Zuj (f:List Int) (n:Nat):List Int:=Zuh 2 n (trans f 1 n)
def Zuk (f:List Int) (n:Nat):List Int:=(Zuj f.reverse n).reverse
end Go.Dg

namespace Go.Dg
def Qdf (p:List Int) (a b d:Int):Nat→List Int
 |0=>[]
 |i+1=>pAdd (Qdf p a b d i) (Qef (pPow (Qaq [a,b]) i) (p.getD i 0*d^(p.length-1-i)))
theorem Qhy (a b:Int):(Qaq [a,b]).length≤1+1:=Qbl _
theorem Znu (a b u:Int):ev (Qaq [a,b]) u=a+b*u:=by rw [Qe9];simp [ev,Int.mul_comm]
theorem Qyu (p:List Int) (a b d u:Int): ∀i,ev (Qdf p a b d i) u=sm (fun k=>p.getD k 0*((a+b*u)^k*d^(p.length-1-k))) i
 |0=>rfl
 |i+1=>by
  rw [Qdf,Q4z,Qyu p a b d u i,Qm2,Q40,Znu,sm];congr 1;simp only [Int.mul_comm,Int.mul_left_comm,Int.mul_assoc]
theorem Q5h (p:List Int) (a b d u:Int):ev (Qdf p a b d p.length) u=hev p (a+b*u) d:=by rw [Qyu,Qgh]
theorem Qhj (p:List Int) (a b d:Int): ∀i,Qaq (Qdf p a b d i)=Qdf p a b d i
 |0=>rfl
 |i+1=>by rw [Qdf,pAdd,Qhg]
theorem Qd6 (p:List Int) (a b d:Int): ∀i,(Qdf p a b d i).length≤i
 |0=>Nat.le_refl _
 |i+1=>by
  rw [Qdf];have h1:=Qvu (Qdf p a b d i) (Qef (pPow (Qaq [a,b]) i) (p.getD i 0*d^(p.length-1-i)));have h2:=Qd6 p a b d i;have h3:=Qi5 (pPow (Qaq [a,b]) i) (p.getD i 0*d^(p.length-1-i));have h4:=Qif (m:=1) (Qhy a b) i;omega
theorem Znv {B:Nat} {a b:Int} (ha:a.natAbs<2^B) (hb:b.natAbs<2^B):bd B (Qaq [a,b]):=Qfa fun x hx=>by
 rcases List.mem_cons.1 hx with rfl|hx
 ·exact ha
 ·rw [List.mem_singleton]at hx;subst hx;exact hb
theorem Qb8 {d:Int} {D:Nat} (h:d.natAbs<2^D) (k:Nat):(d^k).natAbs<2^(D*k+1):=by
 rw [Int.natAbs_pow];have h1:d.natAbs^k≤(2^D)^k:=Nat.pow_le_pow_left (Nat.le_of_lt h) k;rw [←Nat.pow_mul]at h1;rw [Nat.pow_succ];have:=Nat.pow_pos (n:=D*k) (show 0<2 by decide);omega
theorem Qyv {B C D:Nat} {p:List Int} {a b d:Int} (hp:bd B p) (ha:a.natAbs<2^C) (hb:b.natAbs<2^C) (hd:d.natAbs<2^D) (hl:p.length≤30):
  ∀i,i≤p.length→bd ((C+7)*30+1+(B+(D*30+1))+i) (Qdf p a b d i)
 |0,_=>fun x hx=>by cases hx
 |i+1,h=>by
  have ih:=Qyv hp ha hb hd hl i (by omega);have h1:=Q41 (m:=1) (Znv ha hb) (Qhy a b) i (by omega);have h2:(C+7)*i≤(C+7)*30:=Nat.mul_le_mul_left _ (by omega);have h3:=Qb8 hd (p.length-1-i);have h4:D*(p.length-1-i)≤D*30:=Nat.mul_le_mul_left _ (by omega);have h5:(p.getD i 0*d^(p.length-1-i)).natAbs<2^(B+(D*30+1)):=by
   rw [Int.natAbs_mul,Nat.pow_add];exact Nat.mul_lt_mul'' (Qex hp i) (Nat.lt_of_lt_of_le h3 (Nat.pow_le_pow_right (by decide) (by omega)))
  have h6:=Qs6 (Qm3 h1 (show(C+7)*i+1≤(C+7)*30+1 by omega)) h5;exact Zne ih (Qm3 h6 (Nat.le_add_right _ i))
end Go.Dg

namespace Go.Dg

structure Sg where
  f:Int
  t:Int
  o:Int
  x:List Int
  y:List Int
  z:List Int

/-- The weight of a coefficient in a control value,times 60. -/
def cw (n j k:Nat):Nat:=60/bin n k*bin j k
def ctl (c:List Int) (j:Nat):Int:=sm (fun k=>c.getD k 0*(cw (c.length-1) j k:Int)) (j+1)
/-- The first j control values are within the bounds. -/
def Qej (c:List Int) (o:Int) (j:Nat):Bool:=(List.range j).all fun j=>decide (((ctl c j).natAbs:Int)≤62914560*o)
def Qm4 (c:List Int):Bool:=decide (1≤c.length)&&(decide (c.length≤6)&&(decide (c.length≤1)|| !(c.getD (c.length-1) 0==0)))
def axOK (c:List Int) (o:Int):Bool:=Qm4 c&&Qej c o c.length
def gcdL (g:Nat) (c:List Int):Nat:=c.foldl (fun g x=>Nat.gcd g x.natAbs) g
def Sg.ax (s:Sg):List (List Int):=[s.x,s.y,s.z]
def rngS (s:Sg):Bool:=decide (0≤s.f)&&(decide (s.f<s.t)&&(decide (s.t≤3600000)&&(decide (1≤s.o)&&decide (s.o≤4294967296))))
def Qa7 (s:Sg):Bool:=rngS s&&((s.ax.all fun c=>axOK c s.o)&&(s.ax.foldl gcdL s.o.natAbs==1))

theorem Qi6 (g:Nat) (c:List Int) (x:Int):gcdL g (c++[x])=Nat.gcd (gcdL g c) x.natAbs:=by simp [gcdL]
theorem Qkh {g:Nat} (c:List Int) {K:Nat} (hg:g<K) (hc: ∀x∈c,x.natAbs<K):gcdL g c<K:=by
  induction c generalizing g with
  |nil=>exact hg
  |cons x c ih=>
    refine ih (g:=Nat.gcd g x.natAbs) ?_ fun y hy=>hc y (by simp [hy]);rcases Nat.eq_zero_or_pos g with h|h
    · subst h;rw [Nat.gcd_zero_left];exact hc x (by simp)
    · exact Nat.lt_of_le_of_lt (Nat.le_of_dvd h (Nat.gcd_dvd_left _ _)) hg
theorem Qhh (c:List Int) (o:Int) (j:Nat):Qej c o (j+1)=(Qej c o j&&decide (((ctl c j).natAbs:Int)≤62914560*o)):=by
  simp [Qej,List.range_succ]
theorem Zdg {c:List Int} {o:Int} {j m:Nat} (h:Qej c o j=false) (hm:j≤m):Qej c o m=false:=by
  induction m with
  |zero=>
        obtain rfl:j=0:=by omega
        exact h
  |succ m ih=>
    rw [Qhh];by_cases e:j=m+1
    · subst e;rw [Qhh]at h;exact h
    · rw [ih (by omega)];rfl
theorem Zul (n j k:Nat) (hj:j≤5):cw n j k≤1920:=by
  unfold cw;have h1:60/bin n k≤60:=Nat.div_le_self _ _;have h2:=Qkf j k;have h3:2^j≤2^5:=Nat.pow_le_pow_right (by decide) hj;have h4:=Nat.mul_le_mul h1 (Nat.le_trans h2 h3);omega
theorem Qq0 {c:List Int} {B n j:Nat} (hc:bd B c) (hj:j≤5) (m:Nat) (hm:m≤6):(sm (fun k=>c.getD k 0*(cw n j k:Int)) m).natAbs<2^(B+11+7):=by
  refine Qvw (by omega) fun i hi=> ?_;rw [Int.natAbs_mul,Nat.pow_add];refine Nat.mul_lt_mul'' (Qex hc i) ?_;rw [Int.natAbs_natCast];have:=Zul n j i hj;omega
/-- A coordinate at a/d,times the denominator to the power of 5. -/
def plcT (c:List Int) (a d:Int) (k:Nat):Int:=c.getD k 0*(a^k*d^(5-k))
def plc (c:List Int) (a d:Int):Int:=sm (plcT c a d) c.length
def plP (s:Sg) (a d:Int) (i:Nat):Int:=plc (s.ax.getD i []) a d
def plG (s:Sg) (a d:Int) (i:Nat):Nat:=gcdL (s.o*d^5).natAbs ((List.range i).map (plP s a d))
def at3 (P:Nat→Int) (i m:Nat):Int:=if m<i then P m else 0
theorem Qdi (s:Sg) (a d:Int) (i:Nat):plG s a d (i+1)=Nat.gcd (plG s a d i) (plP s a d i).natAbs:=by
  unfold plG;rw [List.range_succ,List.map_append];exact Qi6 _ _ _
theorem Qq1 {c:List Int} {a d:Int} {B:Nat} (hc:bd B c) (ha:a.natAbs<2^B) (hd:d.natAbs<2^B) (k:Nat) (hk:k≤5):
    (a^k).natAbs<2^(B*5+1)∧(d^(5-k)).natAbs<2^(B*5+1)∧(a^k*d^(5-k)).natAbs<2^(B*5+1+(B*5+1))∧(plcT c a d k).natAbs<2^(B+(B*5+1+(B*5+1))):=by
  have h1:(a^k).natAbs<2^(B*5+1):=Nat.lt_of_lt_of_le (Qb8 ha k) (Nat.pow_le_pow_right (by decide) (by have:=Nat.mul_le_mul_left B hk;omega));have h2:(d^(5-k)).natAbs<2^(B*5+1):=Nat.lt_of_lt_of_le (Qb8 hd (5-k)) (Nat.pow_le_pow_right (by decide) (by have:=Nat.mul_le_mul_left B (show 5-k≤5 by omega);omega));have h3:(a^k*d^(5-k)).natAbs<2^(B*5+1+(B*5+1)):=by rw [Int.natAbs_mul,Nat.pow_add];exact Nat.mul_lt_mul'' h1 h2
  refine⟨h1,h2,h3,?_⟩;unfold plcT;rw [Int.natAbs_mul,Nat.pow_add _ B];exact Nat.mul_lt_mul'' (Qex hc k) h3
theorem Qfy {c:List Int} {a d:Int} {B:Nat} (hc:bd B c) (ha:a.natAbs<2^B) (hd:d.natAbs<2^B) (m:Nat) (hm:m≤6):(sm (plcT c a d) m).natAbs<2^(B+(B*5+1+(B*5+1))+7):=
  Qvw (by omega) fun i hi=>(Qq1 hc ha hd i (by omega)).2.2.2
theorem Qvx {s:Sg} {a d:Int} (ho:1≤s.o) (hd:1≤d) (i:Nat):0<plG s a d i:=by
  induction i with
  |zero=>
    show 0<(s.o*d^5).natAbs;have h:0<s.o*d^5:=Int.mul_pos (by omega) (Int.pow_pos (by omega));omega
  |succ i ih=>rw [Qdi];exact Nat.gcd_pos_of_pos_left _ ih
theorem Znh {s:Sg} {d:Int} {B:Nat} (ho:s.o.natAbs<2^B) (hd:d.natAbs<2^B):(s.o*d^5).natAbs<2^(B+(B*5+1)):=by
  rw [Int.natAbs_mul,Nat.pow_add _ B];exact Nat.mul_lt_mul'' ho (Qb8 hd 5)
theorem Q42 {s:Sg} {a d:Int} {B:Nat} (hc: ∀c∈s.ax,bd B c) (h6: ∀c∈s.ax,c.length≤6) (ha:a.natAbs<2^B) (hd:d.natAbs<2^B) (i:Nat) (hi:i<3):
    (plP s a d i).natAbs<2^(B+(B*5+1+(B*5+1))+7):=by
  have hi':i<s.ax.length:=hi;have hm:s.ax.getD i []=s.ax[i]:=by rw [List.getD_eq_getElem?_getD,List.getElem?_eq_getElem hi'];rfl
  unfold plP plc;rw [hm];exact Qfy (hc _ (List.getElem_mem hi')) ha hd _ (h6 _ (List.getElem_mem hi'))
theorem Zum {s:Sg} {a d:Int} {B:Nat} (hc: ∀c∈s.ax,bd B c) (h6: ∀c∈s.ax,c.length≤6) (ho:s.o.natAbs<2^B) (ha:a.natAbs<2^B) (hd:d.natAbs<2^B) (i:Nat) (hi:i≤3):
    ((plG s a d i:Nat):Int).natAbs<2^(B+(B*5+1+(B*5+1))+7):=by
  rw [Int.natAbs_natCast];refine Qkh _ (Nat.lt_of_lt_of_le (Znh ho hd) (Nat.pow_le_pow_right (by decide) (by omega))) ?_;intro x hx;simp only [List.mem_map,List.mem_range]at hx;obtain⟨m,hm,rfl⟩:=hx;exact Q42 hc h6 ha hd m (by omega)
end Go.Dg
