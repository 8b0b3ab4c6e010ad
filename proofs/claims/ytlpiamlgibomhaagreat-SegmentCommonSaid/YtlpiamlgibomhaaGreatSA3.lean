/-
  STy, Dg, SA1, Dn, SA2, Dm, SA3 (merged for the claim).
-/
import Derived.Test.YtlpiamlgibomhaaGreatUV
import Derived.Test.YtlpiamlgibomhaaGreatProg
set_option linter.unusedSimpArgs false
set_option linter.unusedVariables false
namespace Go.Proofs.YtlpiamlgibomhaaGreat
open Go.Vl
theorem mixed:Tryz.prog.follows .mixedOrders=true:=by kernel_rfl
theorem Zrp:tyOk Tryz.prog 3=true:=by kernel_rfl
theorem Zov:Qb5 Tryz.prog 3=false:=by kernel_rfl
theorem Q2y:(Tryz.prog.info? 3).isSome=true:=by kernel_rfl
theorem Zjc:Qa1 Tryz.prog 3=some (1,8):=by kernel_rfl
theorem Zab:Tryz.prog.cellsOf 3=1:=by kernel_rfl
theorem Zjd:Qa6 Tryz.prog 3=some (PV.int IntKind.i64 0):=by kernel_rfl
theorem Zow:Tryz.prog.underlying 3=some (.int .i64):=by kernel_rfl
theorem Zrq:tyOk Tryz.prog 4=true:=by kernel_rfl
theorem Zox:Qb5 Tryz.prog 4=false:=by kernel_rfl
theorem Q2z:(Tryz.prog.info? 4).isSome=true:=by kernel_rfl
theorem Zje:Qa1 Tryz.prog 4=some (1,1):=by kernel_rfl
theorem Zac:Tryz.prog.cellsOf 4=1:=by kernel_rfl
theorem Zjf:Qa6 Tryz.prog 4=some (PV.bool Bool.false):=by kernel_rfl
theorem Zjg:Tryz.prog.underlying 4=some .bool:=by kernel_rfl
theorem Zrr:tyOk Tryz.prog 5=true:=by kernel_rfl
theorem Zoy:Qb5 Tryz.prog 5=false:=by kernel_rfl
theorem Q20:(Tryz.prog.info? 5).isSome=true:=by kernel_rfl
theorem Zjh:Qa1 Tryz.prog 5=some (1,1):=by kernel_rfl
theorem Zad:Tryz.prog.cellsOf 5=1:=by kernel_rfl
theorem Zji:Qa6 Tryz.prog 5=some (PV.int IntKind.u8 0):=by kernel_rfl
theorem Zoz:Tryz.prog.underlying 5=some (.int .u8):=by kernel_rfl
theorem Zrs:tyOk Tryz.prog 9=true:=by kernel_rfl
theorem Zo0:Qb5 Tryz.prog 9=false:=by kernel_rfl
theorem Q21:(Tryz.prog.info? 9).isSome=true:=by kernel_rfl
theorem Zjj:Qa1 Tryz.prog 9=some (1,16):=by kernel_rfl
theorem Zae:Tryz.prog.cellsOf 9=1:=by kernel_rfl
theorem Zjk:Qa6 Tryz.prog 9=some (PV.str {data:={toList:=[]}}):=by kernel_rfl
theorem Zg1:Tryz.prog.underlying 9=some .string:=by kernel_rfl
theorem Zjl (s:ByteArray):Qbd Tryz.prog 9 (.str s)=some (.int .i64 s.size):=by simp only [Qbd,Zg1]
theorem Zo1:tyOk Tryz.prog 22=true:=by kernel_rfl
theorem Zjm:Qb5 Tryz.prog 22=false:=by kernel_rfl
theorem Qyj:(Tryz.prog.info? 22).isSome=true:=by kernel_rfl
theorem Zaf:Qa1 Tryz.prog 22=some (1,24):=by kernel_rfl
theorem Q22:Tryz.prog.cellsOf 22=1:=by kernel_rfl
theorem Zag:Qa6 Tryz.prog 22=some PV.nilS:=by kernel_rfl
theorem Zah:Qb4 Tryz.prog 22=some 3:=by kernel_rfl
theorem Qip:Tryz.prog.underlying 22=some (.slice 3):=by kernel_rfl
theorem Zai (es:List PV):Qbd Tryz.prog 22 (.slc es)=some (.int .i64 es.length):=by simp only [Qbd,Qip]
theorem Zaj:Qbd Tryz.prog 22 .nilS=some (.int .i64 0):=by simp only [Qbd,Qip]
theorem Zak (b e o n:Nat):Qbd Tryz.prog 22 (.bs b e o n)=some (.int .i64 n):=by simp only [Qbd,Qip]
theorem Zo2:tyOk Tryz.prog 24=true:=by kernel_rfl
theorem Zjn:Qb5 Tryz.prog 24=true:=by kernel_rfl
theorem Qyk:(Tryz.prog.info? 24).isSome=true:=by kernel_rfl
theorem Zal:Qa1 Tryz.prog 24=some (6,96):=by kernel_rfl
theorem Q23:Tryz.prog.cellsOf 24=6:=by kernel_rfl
theorem Zam:Qa6 Tryz.prog 24=some (PV.agg [PV.int IntKind.i64 0,PV.int IntKind.i64 0,PV.int IntKind.i64 0,PV.nilS,PV.nilS,PV.nilS]):=by kernel_rfl
theorem Q24:buildable Tryz.prog 24=true:=by kernel_rfl
theorem Zjo:Qbf Tryz.prog 24 0=some (0,3,1):=by kernel_rfl
theorem Zjp:Qae Tryz.prog 24 0=some (0,1):=by kernel_rfl
theorem Zjq:Qbf Tryz.prog 24 1=some (1,3,1):=by kernel_rfl
theorem Zjr:Qae Tryz.prog 24 1=some (1,1):=by kernel_rfl
theorem Zjs:Qbf Tryz.prog 24 2=some (2,3,1):=by kernel_rfl
theorem Zjt:Qae Tryz.prog 24 2=some (2,1):=by kernel_rfl
theorem Zju:Qbf Tryz.prog 24 3=some (3,22,1):=by kernel_rfl
theorem Zjv:Qae Tryz.prog 24 3=some (3,1):=by kernel_rfl
theorem Zjw:Qbf Tryz.prog 24 4=some (4,22,1):=by kernel_rfl
theorem Zjx:Qae Tryz.prog 24 4=some (4,1):=by kernel_rfl
theorem Zjy:Qbf Tryz.prog 24 5=some (5,22,1):=by kernel_rfl
theorem Zjz:Qae Tryz.prog 24 5=some (5,1):=by kernel_rfl
theorem Zo3:tyOk Tryz.prog 27=true:=by kernel_rfl
theorem Zj0:Qb5 Tryz.prog 27=false:=by kernel_rfl
theorem Qyl:(Tryz.prog.info? 27).isSome=true:=by kernel_rfl
theorem Zan:Qa1 Tryz.prog 27=some (1,24):=by kernel_rfl
theorem Q25:Tryz.prog.cellsOf 27=1:=by kernel_rfl
theorem Zao:Qa6 Tryz.prog 27=some PV.nilS:=by kernel_rfl
theorem Zap:Qb4 Tryz.prog 27=some 24:=by kernel_rfl
theorem Qiq:Tryz.prog.underlying 27=some (.slice 24):=by kernel_rfl
theorem Zaq (es:List PV):Qbd Tryz.prog 27 (.slc es)=some (.int .i64 es.length):=by simp only [Qbd,Qiq]
theorem Zar:Qbd Tryz.prog 27 .nilS=some (.int .i64 0):=by simp only [Qbd,Qiq]
theorem Zas (b e o n:Nat):Qbd Tryz.prog 27 (.bs b e o n)=some (.int .i64 n):=by simp only [Qbd,Qiq]
theorem Zo4:tyOk Tryz.prog 31=true:=by kernel_rfl
theorem Zj1:Qb5 Tryz.prog 31=true:=by kernel_rfl
theorem Qym:(Tryz.prog.info? 31).isSome=true:=by kernel_rfl
theorem Zat:Qa1 Tryz.prog 31=some (2,24):=by kernel_rfl
theorem Q26:Tryz.prog.cellsOf 31=2:=by kernel_rfl
theorem Zau:Qa6 Tryz.prog 31=some (PV.agg [PV.bool Bool.false,PV.str {data:={toList:=[]}}]):=by kernel_rfl
theorem Q27:buildable Tryz.prog 31=true:=by kernel_rfl
theorem Zj2:Qbf Tryz.prog 31 0=some (0,4,1):=by kernel_rfl
theorem Zj3:Qae Tryz.prog 31 0=some (0,1):=by kernel_rfl
theorem Zj4:Qbf Tryz.prog 31 1=some (1,9,1):=by kernel_rfl
theorem Zj5:Qae Tryz.prog 31 1=some (1,1):=by kernel_rfl
theorem Zj6:Qdk Tryz.prog 31=some [0,2]:=by kernel_rfl
theorem Zo5:tyOk Tryz.prog 33=true:=by kernel_rfl
theorem Zj7:Qb5 Tryz.prog 33=true:=by kernel_rfl
theorem Qyn:(Tryz.prog.info? 33).isSome=true:=by kernel_rfl
theorem Zav:Qa1 Tryz.prog 33=some (8,96):=by kernel_rfl
theorem Q28:Tryz.prog.cellsOf 33=8:=by kernel_rfl
theorem Zaw:Qa6 Tryz.prog 33=some (PV.agg [PV.bool Bool.false,PV.str {data:={toList:=[]}},PV.bool Bool.false,PV.str {data:={toList:=[]}},PV.bool Bool.false,PV.str {data:={toList:=[]}},PV.bool Bool.false,PV.str {data:={toList:=[]}}]):=by kernel_rfl
theorem Q29:buildable Tryz.prog 33=true:=by kernel_rfl
theorem Zj8:Qbf Tryz.prog 33 0=some (0,31,2):=by kernel_rfl
theorem Zj9:Qae Tryz.prog 33 0=some (0,2):=by kernel_rfl
theorem Zka:Qbf Tryz.prog 33 1=some (2,31,2):=by kernel_rfl
theorem Zkb:Qae Tryz.prog 33 1=some (2,2):=by kernel_rfl
theorem Zkc:Qbf Tryz.prog 33 2=some (4,31,2):=by kernel_rfl
theorem Zkd:Qae Tryz.prog 33 2=some (4,2):=by kernel_rfl
theorem Zke:Qbf Tryz.prog 33 3=some (6,31,2):=by kernel_rfl
theorem Zkf:Qae Tryz.prog 33 3=some (6,2):=by kernel_rfl
theorem Zkg:Qdk Tryz.prog 33=some [0,2,0,2,0,2,0,2]:=by kernel_rfl
theorem Zo6:tyOk Tryz.prog 34=true:=by kernel_rfl
theorem Zkh:Qb5 Tryz.prog 34=false:=by kernel_rfl
theorem Qyo:(Tryz.prog.info? 34).isSome=true:=by kernel_rfl
theorem Zax:Qa1 Tryz.prog 34=some (1,8):=by kernel_rfl
theorem Q3a:Tryz.prog.cellsOf 34=1:=by kernel_rfl
theorem Zay:Qa6 Tryz.prog 34=some (PV.int IntKind.i64 0):=by kernel_rfl
theorem Zki:Tryz.prog.underlying 34=some (.int .i64):=by kernel_rfl
theorem Zo7:tyOk Tryz.prog 38=true:=by kernel_rfl
theorem Zkj:Qb5 Tryz.prog 38=true:=by kernel_rfl
theorem Qyp:(Tryz.prog.info? 38).isSome=true:=by kernel_rfl
theorem Zaz:Qa1 Tryz.prog 38=some (3,24):=by kernel_rfl
theorem Q3b:Tryz.prog.cellsOf 38=3:=by kernel_rfl
theorem Za0:Qa6 Tryz.prog 38=some (PV.agg [PV.int IntKind.i64 0,PV.int IntKind.i64 0,PV.int IntKind.i64 0]):=by kernel_rfl
theorem Q3c:buildable Tryz.prog 38=true:=by kernel_rfl
theorem Zkk:Qbf Tryz.prog 38 0=some (0,3,1):=by kernel_rfl
theorem Zkl:Qae Tryz.prog 38 0=some (0,1):=by kernel_rfl
theorem Zkm:Qbf Tryz.prog 38 1=some (1,3,1):=by kernel_rfl
theorem Zkn:Qae Tryz.prog 38 1=some (1,1):=by kernel_rfl
theorem Zko:Qbf Tryz.prog 38 2=some (2,3,1):=by kernel_rfl
theorem Zkp:Qae Tryz.prog 38 2=some (2,1):=by kernel_rfl
theorem Zkq:Qdk Tryz.prog 38=some [1,1,1]:=by kernel_rfl
theorem Zo8:tyOk Tryz.prog 42=true:=by kernel_rfl
theorem Zkr:Qb5 Tryz.prog 42=false:=by kernel_rfl
theorem Qyq:(Tryz.prog.info? 42).isSome=true:=by kernel_rfl
theorem Za1:Qa1 Tryz.prog 42=some (1,24):=by kernel_rfl
theorem Q3d:Tryz.prog.cellsOf 42=1:=by kernel_rfl
theorem Za2:Qa6 Tryz.prog 42=some PV.nilS:=by kernel_rfl
theorem Za3:Qb4 Tryz.prog 42=some 44:=by kernel_rfl
theorem Qir:Tryz.prog.underlying 42=some (.slice 44):=by kernel_rfl
theorem Za4 (es:List PV):Qbd Tryz.prog 42 (.slc es)=some (.int .i64 es.length):=by simp only [Qbd,Qir]
theorem Za5:Qbd Tryz.prog 42 .nilS=some (.int .i64 0):=by simp only [Qbd,Qir]
theorem Za6 (b e o n:Nat):Qbd Tryz.prog 42 (.bs b e o n)=some (.int .i64 n):=by simp only [Qbd,Qir]
theorem Zo9:tyOk Tryz.prog 44=true:=by kernel_rfl
theorem Zks:Qb5 Tryz.prog 44=true:=by kernel_rfl
theorem Qyr:(Tryz.prog.info? 44).isSome=true:=by kernel_rfl
theorem Za7:Qa1 Tryz.prog 44=some (2,32):=by kernel_rfl
theorem Q3e:Tryz.prog.cellsOf 44=2:=by kernel_rfl
theorem Za8:Qa6 Tryz.prog 44=some (PV.agg [PV.bool Bool.false,PV.nilS]):=by kernel_rfl
theorem Q3f:buildable Tryz.prog 44=true:=by kernel_rfl
theorem Zkt:Qbf Tryz.prog 44 0=some (0,4,1):=by kernel_rfl
theorem Zku:Qae Tryz.prog 44 0=some (0,1):=by kernel_rfl
theorem Zkv:Qbf Tryz.prog 44 1=some (1,22,1):=by kernel_rfl
theorem Zkw:Qae Tryz.prog 44 1=some (1,1):=by kernel_rfl
theorem Zpa:tyOk Tryz.prog 46=true:=by kernel_rfl
theorem Zkx:Qb5 Tryz.prog 46=true:=by kernel_rfl
theorem Qys:(Tryz.prog.info? 46).isSome=true:=by kernel_rfl
theorem Za9:Qa1 Tryz.prog 46=some (3,56):=by kernel_rfl
theorem Q3g:Tryz.prog.cellsOf 46=3:=by kernel_rfl
theorem Zba:Qa6 Tryz.prog 46=some (PV.agg [PV.nilS,PV.bool Bool.false,PV.nilS]):=by kernel_rfl
theorem Q3h:buildable Tryz.prog 46=true:=by kernel_rfl
theorem Zky:Qbf Tryz.prog 46 0=some (0,42,1):=by kernel_rfl
theorem Zkz:Qae Tryz.prog 46 0=some (0,1):=by kernel_rfl
theorem Zk0:Qbf Tryz.prog 46 1=some (1,44,2):=by kernel_rfl
theorem Zk1:Qae Tryz.prog 46 1=some (1,2):=by kernel_rfl
theorem Zpb:tyOk Tryz.prog 67=true:=by kernel_rfl
theorem Zk2:Qb5 Tryz.prog 67=false:=by kernel_rfl
theorem Qyt:(Tryz.prog.info? 67).isSome=true:=by kernel_rfl
theorem Zbb:Qa1 Tryz.prog 67=some (1,8):=by kernel_rfl
theorem Q3i:Tryz.prog.cellsOf 67=1:=by kernel_rfl
theorem Zbc:Qa6 Tryz.prog 67=some PV.nilF:=by kernel_rfl
theorem Zpc:tyOk Tryz.prog 79=true:=by kernel_rfl
theorem Zk3:Qb5 Tryz.prog 79=true:=by kernel_rfl
theorem Qyu:(Tryz.prog.info? 79).isSome=true:=by kernel_rfl
theorem Zbd:Qa1 Tryz.prog 79=some (3,72):=by kernel_rfl
theorem Q3j:Tryz.prog.cellsOf 79=3:=by kernel_rfl
theorem Zbe:Qa6 Tryz.prog 79=some (PV.agg [PV.nilS,PV.nilS,PV.nilS]):=by kernel_rfl
theorem Zk4:Qgf Tryz.prog 79=some (3,22):=by kernel_rfl
theorem Q3k:buildable Tryz.prog 79=true:=by kernel_rfl
theorem Zk5:Qae Tryz.prog 79 0=some (0,1):=by kernel_rfl
theorem Zk6:Qae Tryz.prog 79 1=some (1,1):=by kernel_rfl
theorem Zk7:Qae Tryz.prog 79 2=some (2,1):=by kernel_rfl
theorem Zk8:Qae Tryz.prog 79 3=some (3,1):=by kernel_rfl
theorem Zk9:Qae Tryz.prog 79 4=some (4,1):=by kernel_rfl
theorem Zla:Qae Tryz.prog 79 5=some (5,1):=by kernel_rfl
theorem Zlb:Qae Tryz.prog 79 6=some (6,1):=by kernel_rfl
theorem Zlc:Qae Tryz.prog 79 7=some (7,1):=by kernel_rfl
theorem Zld:Qae Tryz.prog 79 8=some (8,1):=by kernel_rfl
theorem Zle:Qae Tryz.prog 79 9=some (9,1):=by kernel_rfl
theorem Zbf:Qae Tryz.prog 79 10=some (10,1):=by kernel_rfl
theorem Zbg:Qae Tryz.prog 79 11=some (11,1):=by kernel_rfl
theorem Zbh:Qae Tryz.prog 79 12=some (12,1):=by kernel_rfl
theorem Zbi:Qae Tryz.prog 79 13=some (13,1):=by kernel_rfl
theorem Zbj:Qae Tryz.prog 79 14=some (14,1):=by kernel_rfl
theorem Zbk:Qae Tryz.prog 79 15=some (15,1):=by kernel_rfl
theorem Zbl:Qae Tryz.prog 79 16=some (16,1):=by kernel_rfl
theorem Zbm:Qae Tryz.prog 79 17=some (17,1):=by kernel_rfl
theorem Zbn:Qae Tryz.prog 79 18=some (18,1):=by kernel_rfl
theorem Zbo:Qae Tryz.prog 79 19=some (19,1):=by kernel_rfl
theorem Zpd:tyOk Tryz.prog 85=true:=by kernel_rfl
theorem Zlf:Qb5 Tryz.prog 85=false:=by kernel_rfl
theorem Qyv:(Tryz.prog.info? 85).isSome=true:=by kernel_rfl
theorem Zbp:Qa1 Tryz.prog 85=some (1,24):=by kernel_rfl
theorem Q3l:Tryz.prog.cellsOf 85=1:=by kernel_rfl
theorem Zbq:Qa6 Tryz.prog 85=some PV.nilS:=by kernel_rfl
theorem Zbr:Qb4 Tryz.prog 85=some 22:=by kernel_rfl
theorem Qis:Tryz.prog.underlying 85=some (.slice 22):=by kernel_rfl
theorem Zbs (es:List PV):Qbd Tryz.prog 85 (.slc es)=some (.int .i64 es.length):=by simp only [Qbd,Qis]
theorem Zbt:Qbd Tryz.prog 85 .nilS=some (.int .i64 0):=by simp only [Qbd,Qis]
theorem Zbu (b e o n:Nat):Qbd Tryz.prog 85 (.bs b e o n)=some (.int .i64 n):=by simp only [Qbd,Qis]
theorem Zpe:tyOk Tryz.prog 92=true:=by kernel_rfl
theorem Zlg:Qb5 Tryz.prog 92=true:=by kernel_rfl
theorem Qyw:(Tryz.prog.info? 92).isSome=true:=by kernel_rfl
theorem Zbv:Qa1 Tryz.prog 92=some (3,24):=by kernel_rfl
theorem Q3m:Tryz.prog.cellsOf 92=3:=by kernel_rfl
theorem Zbw:Qa6 Tryz.prog 92=some (PV.agg [PV.int IntKind.i64 0,PV.int IntKind.i64 0,PV.int IntKind.i64 0]):=by kernel_rfl
theorem Zlh:Qgf Tryz.prog 92=some (3,3):=by kernel_rfl
theorem Q3n:buildable Tryz.prog 92=true:=by kernel_rfl
theorem Zli:Qae Tryz.prog 92 0=some (0,1):=by kernel_rfl
theorem Zlj:Qae Tryz.prog 92 1=some (1,1):=by kernel_rfl
theorem Zlk:Qae Tryz.prog 92 2=some (2,1):=by kernel_rfl
theorem Zll:Qae Tryz.prog 92 3=some (3,1):=by kernel_rfl
theorem Zlm:Qae Tryz.prog 92 4=some (4,1):=by kernel_rfl
theorem Zln:Qae Tryz.prog 92 5=some (5,1):=by kernel_rfl
theorem Zlo:Qae Tryz.prog 92 6=some (6,1):=by kernel_rfl
theorem Zlp:Qae Tryz.prog 92 7=some (7,1):=by kernel_rfl
theorem Zlq:Qae Tryz.prog 92 8=some (8,1):=by kernel_rfl
theorem Zlr:Qae Tryz.prog 92 9=some (9,1):=by kernel_rfl
theorem Zbx:Qae Tryz.prog 92 10=some (10,1):=by kernel_rfl
theorem Zby:Qae Tryz.prog 92 11=some (11,1):=by kernel_rfl
theorem Zbz:Qae Tryz.prog 92 12=some (12,1):=by kernel_rfl
theorem Zb0:Qae Tryz.prog 92 13=some (13,1):=by kernel_rfl
theorem Zb1:Qae Tryz.prog 92 14=some (14,1):=by kernel_rfl
theorem Zb2:Qae Tryz.prog 92 15=some (15,1):=by kernel_rfl
theorem Zb3:Qae Tryz.prog 92 16=some (16,1):=by kernel_rfl
theorem Zb4:Qae Tryz.prog 92 17=some (17,1):=by kernel_rfl
theorem Zb5:Qae Tryz.prog 92 18=some (18,1):=by kernel_rfl
theorem Zb6:Qae Tryz.prog 92 19=some (19,1):=by kernel_rfl
theorem Zpf:tyOk Tryz.prog 93=true:=by kernel_rfl
theorem Zls:Qb5 Tryz.prog 93=true:=by kernel_rfl
theorem Qyx:(Tryz.prog.info? 93).isSome=true:=by kernel_rfl
theorem Zb7:Qa1 Tryz.prog 93=some (6,72):=by kernel_rfl
theorem Q3o:Tryz.prog.cellsOf 93=6:=by kernel_rfl
theorem Zb8:Qa6 Tryz.prog 93=some (PV.agg [PV.bool Bool.false,PV.str {data:={toList:=[]}},PV.bool Bool.false,PV.str {data:={toList:=[]}},PV.bool Bool.false,PV.str {data:={toList:=[]}}]):=by kernel_rfl
theorem Zlt:Qgf Tryz.prog 93=some (3,31):=by kernel_rfl
theorem Q3p:buildable Tryz.prog 93=true:=by kernel_rfl
theorem Zlu:Qae Tryz.prog 93 0=some (0,2):=by kernel_rfl
theorem Zlv:Qae Tryz.prog 93 1=some (2,2):=by kernel_rfl
theorem Zlw:Qae Tryz.prog 93 2=some (4,2):=by kernel_rfl
theorem Zlx:Qae Tryz.prog 93 3=some (6,2):=by kernel_rfl
theorem Zly:Qae Tryz.prog 93 4=some (8,2):=by kernel_rfl
theorem Zlz:Qae Tryz.prog 93 5=some (10,2):=by kernel_rfl
theorem Zl0:Qae Tryz.prog 93 6=some (12,2):=by kernel_rfl
theorem Zl1:Qae Tryz.prog 93 7=some (14,2):=by kernel_rfl
theorem Zl2:Qae Tryz.prog 93 8=some (16,2):=by kernel_rfl
theorem Zl3:Qae Tryz.prog 93 9=some (18,2):=by kernel_rfl
theorem Zb9:Qae Tryz.prog 93 10=some (20,2):=by kernel_rfl
theorem Zca:Qae Tryz.prog 93 11=some (22,2):=by kernel_rfl
theorem Zcb:Qae Tryz.prog 93 12=some (24,2):=by kernel_rfl
theorem Zcc:Qae Tryz.prog 93 13=some (26,2):=by kernel_rfl
theorem Zcd:Qae Tryz.prog 93 14=some (28,2):=by kernel_rfl
theorem Zce:Qae Tryz.prog 93 15=some (30,2):=by kernel_rfl
theorem Zcf:Qae Tryz.prog 93 16=some (32,2):=by kernel_rfl
theorem Zcg:Qae Tryz.prog 93 17=some (34,2):=by kernel_rfl
theorem Zch:Qae Tryz.prog 93 18=some (36,2):=by kernel_rfl
theorem Zci:Qae Tryz.prog 93 19=some (38,2):=by kernel_rfl
theorem Zpg:tyOk Tryz.prog 99=true:=by kernel_rfl
theorem Zl4:Qb5 Tryz.prog 99=false:=by kernel_rfl
theorem Qyy:(Tryz.prog.info? 99).isSome=true:=by kernel_rfl
theorem Zcj:Qa1 Tryz.prog 99=some (1,8):=by kernel_rfl
theorem Q3q:Tryz.prog.cellsOf 99=1:=by kernel_rfl
theorem Zck:Qa6 Tryz.prog 99=some PV.nilF:=by kernel_rfl
theorem Zl5:tyOk Tryz.prog 111=true:=by kernel_rfl
theorem Zcl:Qb5 Tryz.prog 111=false:=by kernel_rfl
theorem Qt1:(Tryz.prog.info? 111).isSome=true:=by kernel_rfl
theorem Q3r:Qa1 Tryz.prog 111=some (1,24):=by kernel_rfl
theorem Qyz:Tryz.prog.cellsOf 111=1:=by kernel_rfl
theorem Q3s:Qa6 Tryz.prog 111=some PV.nilS:=by kernel_rfl
theorem Q3t:Qb4 Tryz.prog 111=some 31:=by kernel_rfl
theorem Qhc:Tryz.prog.underlying 111=some (.slice 31):=by kernel_rfl
theorem Q3u (es:List PV):Qbd Tryz.prog 111 (.slc es)=some (.int .i64 es.length):=by simp only [Qbd,Qhc]
theorem Q3v:Qbd Tryz.prog 111 .nilS=some (.int .i64 0):=by simp only [Qbd,Qhc]
theorem Q3w (b e o n:Nat):Qbd Tryz.prog 111 (.bs b e o n)=some (.int .i64 n):=by simp only [Qbd,Qhc]
theorem Zl6:tyOk Tryz.prog 112=true:=by kernel_rfl
theorem Zcm:Qb5 Tryz.prog 112=false:=by kernel_rfl
theorem Qt2:(Tryz.prog.info? 112).isSome=true:=by kernel_rfl
theorem Q3x:Qa1 Tryz.prog 112=some (1,24):=by kernel_rfl
theorem Qy0:Tryz.prog.cellsOf 112=1:=by kernel_rfl
theorem Q3y:Qa6 Tryz.prog 112=some PV.nilS:=by kernel_rfl
theorem Q3z:Qb4 Tryz.prog 112=some 31:=by kernel_rfl
theorem Qhd:Tryz.prog.underlying 112=some (.slice 31):=by kernel_rfl
theorem Q30 (es:List PV):Qbd Tryz.prog 112 (.slc es)=some (.int .i64 es.length):=by simp only [Qbd,Qhd]
theorem Q31:Qbd Tryz.prog 112 .nilS=some (.int .i64 0):=by simp only [Qbd,Qhd]
theorem Q32 (b e o n:Nat):Qbd Tryz.prog 112 (.bs b e o n)=some (.int .i64 n):=by simp only [Qbd,Qhd]
theorem Zl7:tyOk Tryz.prog 113=true:=by kernel_rfl
theorem Zcn:Qb5 Tryz.prog 113=true:=by kernel_rfl
theorem Qt3:(Tryz.prog.info? 113).isSome=true:=by kernel_rfl
theorem Q33:Qa1 Tryz.prog 113=some (3,72):=by kernel_rfl
theorem Qy1:Tryz.prog.cellsOf 113=3:=by kernel_rfl
theorem Q34:Qa6 Tryz.prog 113=some (PV.agg [PV.nilS,PV.nilS,PV.nilS]):=by kernel_rfl
theorem Zco:Qgf Tryz.prog 113=some (3,112):=by kernel_rfl
theorem Qy2:buildable Tryz.prog 113=true:=by kernel_rfl
theorem Zcp:Qae Tryz.prog 113 0=some (0,1):=by kernel_rfl
theorem Zcq:Qae Tryz.prog 113 1=some (1,1):=by kernel_rfl
theorem Zcr:Qae Tryz.prog 113 2=some (2,1):=by kernel_rfl
theorem Zcs:Qae Tryz.prog 113 3=some (3,1):=by kernel_rfl
theorem Zct:Qae Tryz.prog 113 4=some (4,1):=by kernel_rfl
theorem Zcu:Qae Tryz.prog 113 5=some (5,1):=by kernel_rfl
theorem Zcv:Qae Tryz.prog 113 6=some (6,1):=by kernel_rfl
theorem Zcw:Qae Tryz.prog 113 7=some (7,1):=by kernel_rfl
theorem Zcx:Qae Tryz.prog 113 8=some (8,1):=by kernel_rfl
theorem Zcy:Qae Tryz.prog 113 9=some (9,1):=by kernel_rfl
theorem Q35:Qae Tryz.prog 113 10=some (10,1):=by kernel_rfl
theorem Q36:Qae Tryz.prog 113 11=some (11,1):=by kernel_rfl
theorem Q37:Qae Tryz.prog 113 12=some (12,1):=by kernel_rfl
theorem Q38:Qae Tryz.prog 113 13=some (13,1):=by kernel_rfl
theorem Q39:Qae Tryz.prog 113 14=some (14,1):=by kernel_rfl
theorem Q4a:Qae Tryz.prog 113 15=some (15,1):=by kernel_rfl
theorem Q4b:Qae Tryz.prog 113 16=some (16,1):=by kernel_rfl
theorem Q4c:Qae Tryz.prog 113 17=some (17,1):=by kernel_rfl
theorem Q4d:Qae Tryz.prog 113 18=some (18,1):=by kernel_rfl
theorem Q4e:Qae Tryz.prog 113 19=some (19,1):=by kernel_rfl
theorem Zl8:tyOk Tryz.prog 115=true:=by kernel_rfl
theorem Zcz:Qb5 Tryz.prog 115=false:=by kernel_rfl
theorem Qt4:(Tryz.prog.info? 115).isSome=true:=by kernel_rfl
theorem Q4f:Qa1 Tryz.prog 115=some (1,24):=by kernel_rfl
theorem Qy3:Tryz.prog.cellsOf 115=1:=by kernel_rfl
theorem Q4g:Qa6 Tryz.prog 115=some PV.nilS:=by kernel_rfl
theorem Q4h:Qb4 Tryz.prog 115=some 116:=by kernel_rfl
theorem Qhe:Tryz.prog.underlying 115=some (.slice 116):=by kernel_rfl
theorem Q4i (es:List PV):Qbd Tryz.prog 115 (.slc es)=some (.int .i64 es.length):=by simp only [Qbd,Qhe]
theorem Q4j:Qbd Tryz.prog 115 .nilS=some (.int .i64 0):=by simp only [Qbd,Qhe]
theorem Q4k (b e o n:Nat):Qbd Tryz.prog 115 (.bs b e o n)=some (.int .i64 n):=by simp only [Qbd,Qhe]
theorem Zl9:tyOk Tryz.prog 116=true:=by kernel_rfl
theorem Zc0:Qb5 Tryz.prog 116=false:=by kernel_rfl
theorem Qt5:(Tryz.prog.info? 116).isSome=true:=by kernel_rfl
theorem Q4l:Qa1 Tryz.prog 116=some (1,24):=by kernel_rfl
theorem Qy4:Tryz.prog.cellsOf 116=1:=by kernel_rfl
theorem Q4m:Qa6 Tryz.prog 116=some PV.nilS:=by kernel_rfl
theorem Q4n:Qb4 Tryz.prog 116=some 44:=by kernel_rfl
theorem Qhf:Tryz.prog.underlying 116=some (.slice 44):=by kernel_rfl
theorem Q4o (es:List PV):Qbd Tryz.prog 116 (.slc es)=some (.int .i64 es.length):=by simp only [Qbd,Qhf]
theorem Q4p:Qbd Tryz.prog 116 .nilS=some (.int .i64 0):=by simp only [Qbd,Qhf]
theorem Q4q (b e o n:Nat):Qbd Tryz.prog 116 (.bs b e o n)=some (.int .i64 n):=by simp only [Qbd,Qhf]
theorem Zma:tyOk Tryz.prog 120=true:=by kernel_rfl
theorem Zc1:Qb5 Tryz.prog 120=false:=by kernel_rfl
theorem Qt6:(Tryz.prog.info? 120).isSome=true:=by kernel_rfl
theorem Q4r:Qa1 Tryz.prog 120=some (1,24):=by kernel_rfl
theorem Qy5:Tryz.prog.cellsOf 120=1:=by kernel_rfl
theorem Q4s:Qa6 Tryz.prog 120=some PV.nilS:=by kernel_rfl
theorem Q4t:Qb4 Tryz.prog 120=some 27:=by kernel_rfl
theorem Qhg:Tryz.prog.underlying 120=some (.slice 27):=by kernel_rfl
theorem Q4u (es:List PV):Qbd Tryz.prog 120 (.slc es)=some (.int .i64 es.length):=by simp only [Qbd,Qhg]
theorem Q4v:Qbd Tryz.prog 120 .nilS=some (.int .i64 0):=by simp only [Qbd,Qhg]
theorem Q4w (b e o n:Nat):Qbd Tryz.prog 120 (.bs b e o n)=some (.int .i64 n):=by simp only [Qbd,Qhg]
theorem Zmb:tyOk Tryz.prog 122=true:=by kernel_rfl
theorem Zc2:Qb5 Tryz.prog 122=false:=by kernel_rfl
theorem Qt7:(Tryz.prog.info? 122).isSome=true:=by kernel_rfl
theorem Q4x:Qa1 Tryz.prog 122=some (1,8):=by kernel_rfl
theorem Qy6:Tryz.prog.cellsOf 122=1:=by kernel_rfl
theorem Q4y:Qa6 Tryz.prog 122=some (PV.int IntKind.u64 0):=by kernel_rfl
theorem Zc3:Tryz.prog.underlying 122=some (.int .u64):=by kernel_rfl
theorem Zmc:tyOk Tryz.prog 125=true:=by kernel_rfl
theorem Zc4:Qb5 Tryz.prog 125=false:=by kernel_rfl
theorem Qt8:(Tryz.prog.info? 125).isSome=true:=by kernel_rfl
theorem Q4z:Qa1 Tryz.prog 125=some (1,24):=by kernel_rfl
theorem Qy7:Tryz.prog.cellsOf 125=1:=by kernel_rfl
theorem Q40:Qa6 Tryz.prog 125=some PV.nilS:=by kernel_rfl
theorem Q41:Qb4 Tryz.prog 125=some 122:=by kernel_rfl
theorem Qhh:Tryz.prog.underlying 125=some (.slice 122):=by kernel_rfl
theorem Q42 (es:List PV):Qbd Tryz.prog 125 (.slc es)=some (.int .i64 es.length):=by simp only [Qbd,Qhh]
theorem Q43:Qbd Tryz.prog 125 .nilS=some (.int .i64 0):=by simp only [Qbd,Qhh]
theorem Q44 (b e o n:Nat):Qbd Tryz.prog 125 (.bs b e o n)=some (.int .i64 n):=by simp only [Qbd,Qhh]
theorem Zmd:tyOk Tryz.prog 128=true:=by kernel_rfl
theorem Zc5:Qb5 Tryz.prog 128=true:=by kernel_rfl
theorem Qt9:(Tryz.prog.info? 128).isSome=true:=by kernel_rfl
theorem Q45:Qa1 Tryz.prog 128=some (2,32):=by kernel_rfl
theorem Qy8:Tryz.prog.cellsOf 128=2:=by kernel_rfl
theorem Q46:Qa6 Tryz.prog 128=some (PV.agg [PV.bool Bool.false,PV.nilS]):=by kernel_rfl
theorem Qy9:buildable Tryz.prog 128=true:=by kernel_rfl
theorem Zc6:Qbf Tryz.prog 128 0=some (0,4,1):=by kernel_rfl
theorem Zc7:Qae Tryz.prog 128 0=some (0,1):=by kernel_rfl
theorem Zc8:Qbf Tryz.prog 128 1=some (1,125,1):=by kernel_rfl
theorem Zc9:Qae Tryz.prog 128 1=some (1,1):=by kernel_rfl
theorem Zme:tyOk Tryz.prog 130=true:=by kernel_rfl
theorem Zda:Qb5 Tryz.prog 130=true:=by kernel_rfl
theorem Qua:(Tryz.prog.info? 130).isSome=true:=by kernel_rfl
theorem Q47:Qa1 Tryz.prog 130=some (6,48):=by kernel_rfl
theorem Qza:Tryz.prog.cellsOf 130=6:=by kernel_rfl
theorem Q48:Qa6 Tryz.prog 130=some (PV.agg [PV.int IntKind.i64 0,PV.int IntKind.i64 0,PV.int IntKind.i64 0,PV.int IntKind.i64 0,PV.int IntKind.i64 0,PV.int IntKind.i64 0]):=by kernel_rfl
theorem Zdb:Qgf Tryz.prog 130=some (6,3):=by kernel_rfl
theorem Qzb:buildable Tryz.prog 130=true:=by kernel_rfl
theorem Zdc:Qae Tryz.prog 130 0=some (0,1):=by kernel_rfl
theorem Zdd:Qae Tryz.prog 130 1=some (1,1):=by kernel_rfl
theorem Zde:Qae Tryz.prog 130 2=some (2,1):=by kernel_rfl
theorem Zdf:Qae Tryz.prog 130 3=some (3,1):=by kernel_rfl
theorem Zdg:Qae Tryz.prog 130 4=some (4,1):=by kernel_rfl
theorem Zdh:Qae Tryz.prog 130 5=some (5,1):=by kernel_rfl
theorem Zdi:Qae Tryz.prog 130 6=some (6,1):=by kernel_rfl
theorem Zdj:Qae Tryz.prog 130 7=some (7,1):=by kernel_rfl
theorem Zdk:Qae Tryz.prog 130 8=some (8,1):=by kernel_rfl
theorem Zdl:Qae Tryz.prog 130 9=some (9,1):=by kernel_rfl
theorem Q49:Qae Tryz.prog 130 10=some (10,1):=by kernel_rfl
theorem Q5a:Qae Tryz.prog 130 11=some (11,1):=by kernel_rfl
theorem Q5b:Qae Tryz.prog 130 12=some (12,1):=by kernel_rfl
theorem Q5c:Qae Tryz.prog 130 13=some (13,1):=by kernel_rfl
theorem Q5d:Qae Tryz.prog 130 14=some (14,1):=by kernel_rfl
theorem Q5e:Qae Tryz.prog 130 15=some (15,1):=by kernel_rfl
theorem Q5f:Qae Tryz.prog 130 16=some (16,1):=by kernel_rfl
theorem Q5g:Qae Tryz.prog 130 17=some (17,1):=by kernel_rfl
theorem Q5h:Qae Tryz.prog 130 18=some (18,1):=by kernel_rfl
theorem Q5i:Qae Tryz.prog 130 19=some (19,1):=by kernel_rfl
theorem Zmf:tyOk Tryz.prog 131=true:=by kernel_rfl
theorem Zdm:Qb5 Tryz.prog 131=true:=by kernel_rfl
theorem Qub:(Tryz.prog.info? 131).isSome=true:=by kernel_rfl
theorem Q5j:Qa1 Tryz.prog 131=some (36,288):=by kernel_rfl
theorem Qzc:Tryz.prog.cellsOf 131=36:=by kernel_rfl
theorem Q5k:Qa6 Tryz.prog 131=some (PV.agg [PV.int IntKind.i64 0,PV.int IntKind.i64 0,PV.int IntKind.i64 0,PV.int IntKind.i64 0,PV.int IntKind.i64 0,PV.int IntKind.i64 0,PV.int IntKind.i64 0,PV.int IntKind.i64 0,PV.int IntKind.i64 0,PV.int IntKind.i64 0,PV.int IntKind.i64 0,PV.int IntKind.i64 0,PV.int IntKind.i64 0,PV.int IntKind.i64 0,PV.int IntKind.i64 0,PV.int IntKind.i64 0,PV.int IntKind.i64 0,PV.int IntKind.i64 0,PV.int IntKind.i64 0,PV.int IntKind.i64 0,PV.int IntKind.i64 0,PV.int IntKind.i64 0,PV.int IntKind.i64 0,PV.int IntKind.i64 0,PV.int IntKind.i64 0,PV.int IntKind.i64 0,PV.int IntKind.i64 0,PV.int IntKind.i64 0,PV.int IntKind.i64 0,PV.int IntKind.i64 0,PV.int IntKind.i64 0,PV.int IntKind.i64 0,PV.int IntKind.i64 0,PV.int IntKind.i64 0,PV.int IntKind.i64 0,PV.int IntKind.i64 0]):=by kernel_rfl
theorem Zdn:Qgf Tryz.prog 131=some (6,130):=by kernel_rfl
theorem Qzd:buildable Tryz.prog 131=true:=by kernel_rfl
theorem Zdo:Qae Tryz.prog 131 0=some (0,6):=by kernel_rfl
theorem Zdp:Qae Tryz.prog 131 1=some (6,6):=by kernel_rfl
theorem Zdq:Qae Tryz.prog 131 2=some (12,6):=by kernel_rfl
theorem Zdr:Qae Tryz.prog 131 3=some (18,6):=by kernel_rfl
theorem Zds:Qae Tryz.prog 131 4=some (24,6):=by kernel_rfl
theorem Zdt:Qae Tryz.prog 131 5=some (30,6):=by kernel_rfl
theorem Zdu:Qae Tryz.prog 131 6=some (36,6):=by kernel_rfl
theorem Zdv:Qae Tryz.prog 131 7=some (42,6):=by kernel_rfl
theorem Zdw:Qae Tryz.prog 131 8=some (48,6):=by kernel_rfl
theorem Zdx:Qae Tryz.prog 131 9=some (54,6):=by kernel_rfl
theorem Q5l:Qae Tryz.prog 131 10=some (60,6):=by kernel_rfl
theorem Q5m:Qae Tryz.prog 131 11=some (66,6):=by kernel_rfl
theorem Q5n:Qae Tryz.prog 131 12=some (72,6):=by kernel_rfl
theorem Q5o:Qae Tryz.prog 131 13=some (78,6):=by kernel_rfl
theorem Q5p:Qae Tryz.prog 131 14=some (84,6):=by kernel_rfl
theorem Q5q:Qae Tryz.prog 131 15=some (90,6):=by kernel_rfl
theorem Q5r:Qae Tryz.prog 131 16=some (96,6):=by kernel_rfl
theorem Q5s:Qae Tryz.prog 131 17=some (102,6):=by kernel_rfl
theorem Q5t:Qae Tryz.prog 131 18=some (108,6):=by kernel_rfl
theorem Q5u:Qae Tryz.prog 131 19=some (114,6):=by kernel_rfl
theorem Zmg:tyOk Tryz.prog 141=true:=by kernel_rfl
theorem Zdy:Qb5 Tryz.prog 141=false:=by kernel_rfl
theorem Quc:(Tryz.prog.info? 141).isSome=true:=by kernel_rfl
theorem Q5v:Qa1 Tryz.prog 141=some (1,8):=by kernel_rfl
theorem Qze:Tryz.prog.cellsOf 141=1:=by kernel_rfl
theorem Q5w:Qa6 Tryz.prog 141=some (PV.int IntKind.u64 0):=by kernel_rfl
theorem Zdz:Tryz.prog.underlying 141=some (.int .u64):=by kernel_rfl
theorem Zmh:tyOk Tryz.prog 149=true:=by kernel_rfl
theorem Zd0:Qb5 Tryz.prog 149=false:=by kernel_rfl
theorem Qud:(Tryz.prog.info? 149).isSome=true:=by kernel_rfl
theorem Q5x:Qa1 Tryz.prog 149=some (1,24):=by kernel_rfl
theorem Qzf:Tryz.prog.cellsOf 149=1:=by kernel_rfl
theorem Q5y:Qa6 Tryz.prog 149=some PV.nilS:=by kernel_rfl
theorem Q5z:Qb4 Tryz.prog 149=some 5:=by kernel_rfl
theorem Qhi:Tryz.prog.underlying 149=some (.slice 5):=by kernel_rfl
theorem Q50 (es:List PV):Qbd Tryz.prog 149 (.slc es)=some (.int .i64 es.length):=by simp only [Qbd,Qhi]
theorem Q51:Qbd Tryz.prog 149 .nilS=some (.int .i64 0):=by simp only [Qbd,Qhi]
theorem Q52 (b e o n:Nat):Qbd Tryz.prog 149 (.bs b e o n)=some (.int .i64 n):=by simp only [Qbd,Qhi]
theorem Zmi:tyOk Tryz.prog 158=true:=by kernel_rfl
theorem Zd1:Qb5 Tryz.prog 158=false:=by kernel_rfl
theorem Que:(Tryz.prog.info? 158).isSome=true:=by kernel_rfl
theorem Q53:Qa1 Tryz.prog 158=some (1,8):=by kernel_rfl
theorem Qzg:Tryz.prog.cellsOf 158=1:=by kernel_rfl
theorem Zmj:tyOk Tryz.prog 159=true:=by kernel_rfl
theorem Zd2:Qb5 Tryz.prog 159=true:=by kernel_rfl
theorem Quf:(Tryz.prog.info? 159).isSome=true:=by kernel_rfl
theorem Q54:Qa1 Tryz.prog 159=some (3,24):=by kernel_rfl
theorem Qzh:Tryz.prog.cellsOf 159=3:=by kernel_rfl
theorem Zd3:Qgf Tryz.prog 159=some (3,158):=by kernel_rfl
theorem Qzi:buildable Tryz.prog 159=true:=by kernel_rfl
theorem Zd4:Qae Tryz.prog 159 0=some (0,1):=by kernel_rfl
theorem Zd5:Qae Tryz.prog 159 1=some (1,1):=by kernel_rfl
theorem Zd6:Qae Tryz.prog 159 2=some (2,1):=by kernel_rfl
theorem Zd7:Qae Tryz.prog 159 3=some (3,1):=by kernel_rfl
theorem Zd8:Qae Tryz.prog 159 4=some (4,1):=by kernel_rfl
theorem Zd9:Qae Tryz.prog 159 5=some (5,1):=by kernel_rfl
theorem Zea:Qae Tryz.prog 159 6=some (6,1):=by kernel_rfl
theorem Zeb:Qae Tryz.prog 159 7=some (7,1):=by kernel_rfl
theorem Zec:Qae Tryz.prog 159 8=some (8,1):=by kernel_rfl
theorem Zed:Qae Tryz.prog 159 9=some (9,1):=by kernel_rfl
theorem Q55:Qae Tryz.prog 159 10=some (10,1):=by kernel_rfl
theorem Q56:Qae Tryz.prog 159 11=some (11,1):=by kernel_rfl
theorem Q57:Qae Tryz.prog 159 12=some (12,1):=by kernel_rfl
theorem Q58:Qae Tryz.prog 159 13=some (13,1):=by kernel_rfl
theorem Q59:Qae Tryz.prog 159 14=some (14,1):=by kernel_rfl
theorem Q6a:Qae Tryz.prog 159 15=some (15,1):=by kernel_rfl
theorem Q6b:Qae Tryz.prog 159 16=some (16,1):=by kernel_rfl
theorem Q6c:Qae Tryz.prog 159 17=some (17,1):=by kernel_rfl
theorem Q6d:Qae Tryz.prog 159 18=some (18,1):=by kernel_rfl
theorem Q6e:Qae Tryz.prog 159 19=some (19,1):=by kernel_rfl
theorem Zmk:tyOk Tryz.prog 188=true:=by kernel_rfl
theorem Zee:Qb5 Tryz.prog 188=true:=by kernel_rfl
theorem Qug:(Tryz.prog.info? 188).isSome=true:=by kernel_rfl
theorem Q6f:Qa1 Tryz.prog 188=some (1,8):=by kernel_rfl
theorem Qzj:Tryz.prog.cellsOf 188=1:=by kernel_rfl
theorem Q6g:Qa6 Tryz.prog 188=some (PV.agg [PV.int IntKind.i64 0]):=by kernel_rfl
theorem Qzk:buildable Tryz.prog 188=true:=by kernel_rfl
theorem Zef:Qbf Tryz.prog 188 0=some (0,34,1):=by kernel_rfl
theorem Zeg:Qae Tryz.prog 188 0=some (0,1):=by kernel_rfl
theorem Zeh:Qdk Tryz.prog 188=some [1]:=by kernel_rfl
theorem Zml:tyOk Tryz.prog 190=true:=by kernel_rfl
theorem Zei:Qb5 Tryz.prog 190=true:=by kernel_rfl
theorem Quh:(Tryz.prog.info? 190).isSome=true:=by kernel_rfl
theorem Q6h:Qa1 Tryz.prog 190=some (1,8):=by kernel_rfl
theorem Qzl:Tryz.prog.cellsOf 190=1:=by kernel_rfl
theorem Q6i:Qa6 Tryz.prog 190=some (PV.agg [PV.int IntKind.i64 0]):=by kernel_rfl
theorem Qzm:buildable Tryz.prog 190=true:=by kernel_rfl
theorem Zej:Qbf Tryz.prog 190 0=some (0,188,1):=by kernel_rfl
theorem Zek:Qae Tryz.prog 190 0=some (0,1):=by kernel_rfl
theorem Zel:Qdk Tryz.prog 190=some [1]:=by kernel_rfl
theorem Zmm:tyOk Tryz.prog 194=true:=by kernel_rfl
theorem Zem:Qb5 Tryz.prog 194=false:=by kernel_rfl
theorem Qui:(Tryz.prog.info? 194).isSome=true:=by kernel_rfl
theorem Q6j:Qa1 Tryz.prog 194=some (1,8):=by kernel_rfl
theorem Qzn:Tryz.prog.cellsOf 194=1:=by kernel_rfl
theorem Q6k:Qa6 Tryz.prog 194=some (PV.int IntKind.i64 0):=by kernel_rfl
theorem Zen:Tryz.prog.underlying 194=some (.int .i64):=by kernel_rfl
theorem Zmn:tyOk Tryz.prog 203=true:=by kernel_rfl
theorem Zeo:Qb5 Tryz.prog 203=false:=by kernel_rfl
theorem Quj:(Tryz.prog.info? 203).isSome=true:=by kernel_rfl
theorem Q6l:Qa1 Tryz.prog 203=some (1,4):=by kernel_rfl
theorem Qzo:Tryz.prog.cellsOf 203=1:=by kernel_rfl
theorem Q6m:Qa6 Tryz.prog 203=some (PV.int IntKind.u32 0):=by kernel_rfl
theorem Zep:Tryz.prog.underlying 203=some (.int .u32):=by kernel_rfl
theorem Zmo:tyOk Tryz.prog 210=true:=by kernel_rfl
theorem Zeq:Qb5 Tryz.prog 210=false:=by kernel_rfl
theorem Quk:(Tryz.prog.info? 210).isSome=true:=by kernel_rfl
theorem Q6n:Qa1 Tryz.prog 210=some (1,8):=by kernel_rfl
theorem Qzp:Tryz.prog.cellsOf 210=1:=by kernel_rfl
theorem Q6o:Qa6 Tryz.prog 210=some (PV.int IntKind.u64 0):=by kernel_rfl
theorem Zer:Tryz.prog.underlying 210=some (.int .u64):=by kernel_rfl
theorem Zmp:tyOk Tryz.prog 214=true:=by kernel_rfl
theorem Zes:Qb5 Tryz.prog 214=false:=by kernel_rfl
theorem Qul:(Tryz.prog.info? 214).isSome=true:=by kernel_rfl
theorem Q6p:Qa1 Tryz.prog 214=some (1,8):=by kernel_rfl
theorem Qzq:Tryz.prog.cellsOf 214=1:=by kernel_rfl
theorem Zmq:tyOk Tryz.prog 227=true:=by kernel_rfl
theorem Zet:Qb5 Tryz.prog 227=false:=by kernel_rfl
theorem Qum:(Tryz.prog.info? 227).isSome=true:=by kernel_rfl
theorem Q6q:Qa1 Tryz.prog 227=some (1,16):=by kernel_rfl
theorem Qzr:Tryz.prog.cellsOf 227=1:=by kernel_rfl
theorem Q6r:Qa6 Tryz.prog 227=some PV.nilI:=by kernel_rfl
attribute [go_sem] Zrp Zov Q2y Zjc Zab Zjd Zow Zrq Zox Q2z Zje Zac Zjf Zjg Zrr Zoy
attribute [go_sem] Q20 Zjh Zad Zji Zoz Zrs Zo0 Q21 Zjj Zae Zjk Zg1 Zjl Zo1 Zjm Qyj
attribute [go_sem] Zaf Q22 Zag Zah Qip Zai Zaj Zak Zo2 Zjn Qyk Zal Q23 Zam Q24 Zjo
attribute [go_sem] Zjp Zjq Zjr Zjs Zjt Zju Zjv Zjw Zjx Zjy Zjz Zo3 Zj0 Qyl Zan Q25
attribute [go_sem] Zao Zap Qiq Zaq Zar Zas Zo4 Zj1 Qym Zat Q26 Zau Q27 Zj2 Zj3 Zj4
attribute [go_sem] Zj5 Zj6 Zo5 Zj7 Qyn Zav Q28 Zaw Q29 Zj8 Zj9 Zka Zkb Zkc Zkd Zke
attribute [go_sem] Zkf Zkg Zo6 Zkh Qyo Zax Q3a Zay Zki Zo7 Zkj Qyp Zaz Q3b Za0 Q3c
attribute [go_sem] Zkk Zkl Zkm Zkn Zko Zkp Zkq Zo8 Zkr Qyq Za1 Q3d Za2 Za3 Qir Za4
attribute [go_sem] Za5 Za6 Zo9 Zks Qyr Za7 Q3e Za8 Q3f Zkt Zku Zkv Zkw Zpa Zkx Qys
attribute [go_sem] Za9 Q3g Zba Q3h Zky Zkz Zk0 Zk1 Zpb Zk2 Qyt Zbb Q3i Zbc Zpc Zk3
attribute [go_sem] Qyu Zbd Q3j Zbe Zk4 Q3k Zk5 Zk6 Zk7 Zk8 Zk9 Zla Zlb Zlc Zld Zle
attribute [go_sem] Zbf Zbg Zbh Zbi Zbj Zbk Zbl Zbm Zbn Zbo Zpd Zlf Qyv Zbp Q3l Zbq
attribute [go_sem] Zbr Qis Zbs Zbt Zbu Zpe Zlg Qyw Zbv Q3m Zbw Zlh Q3n Zli Zlj Zlk
attribute [go_sem] Zll Zlm Zln Zlo Zlp Zlq Zlr Zbx Zby Zbz Zb0 Zb1 Zb2 Zb3 Zb4 Zb5
attribute [go_sem] Zb6 Zpf Zls Qyx Zb7 Q3o Zb8 Zlt Q3p Zlu Zlv Zlw Zlx Zly Zlz Zl0
attribute [go_sem] Zl1 Zl2 Zl3 Zb9 Zca Zcb Zcc Zcd Zce Zcf Zcg Zch Zci Zpg Zl4 Qyy
attribute [go_sem] Zcj Q3q Zck Zl5 Zcl Qt1 Q3r Qyz Q3s Q3t Qhc Q3u Q3v Q3w Zl6 Zcm
attribute [go_sem] Qt2 Q3x Qy0 Q3y Q3z Qhd Q30 Q31 Q32 Zl7 Zcn Qt3 Q33 Qy1 Q34 Zco
attribute [go_sem] Qy2 Zcp Zcq Zcr Zcs Zct Zcu Zcv Zcw Zcx Zcy Q35 Q36 Q37 Q38 Q39
attribute [go_sem] Q4a Q4b Q4c Q4d Q4e Zl8 Zcz Qt4 Q4f Qy3 Q4g Q4h Qhe Q4i Q4j Q4k
attribute [go_sem] Zl9 Zc0 Qt5 Q4l Qy4 Q4m Q4n Qhf Q4o Q4p Q4q Zma Zc1 Qt6 Q4r Qy5
attribute [go_sem] Q4s Q4t Qhg Q4u Q4v Q4w Zmb Zc2 Qt7 Q4x Qy6 Q4y Zc3 Zmc Zc4 Qt8
attribute [go_sem] Q4z Qy7 Q40 Q41 Qhh Q42 Q43 Q44 Zmd Zc5 Qt9 Q45 Qy8 Q46 Qy9 Zc6
attribute [go_sem] Zc7 Zc8 Zc9 Zme Zda Qua Q47 Qza Q48 Zdb Qzb Zdc Zdd Zde Zdf Zdg
attribute [go_sem] Zdh Zdi Zdj Zdk Zdl Q49 Q5a Q5b Q5c Q5d Q5e Q5f Q5g Q5h Q5i Zmf
attribute [go_sem] Zdm Qub Q5j Qzc Q5k Zdn Qzd Zdo Zdp Zdq Zdr Zds Zdt Zdu Zdv Zdw
attribute [go_sem] Zdx Q5l Q5m Q5n Q5o Q5p Q5q Q5r Q5s Q5t Q5u Zmg Zdy Quc Q5v Qze
attribute [go_sem] Q5w Zdz Zmh Zd0 Qud Q5x Qzf Q5y Q5z Qhi Q50 Q51 Q52 Zmi Zd1 Que
attribute [go_sem] Q53 Qzg Zmj Zd2 Quf Q54 Qzh Zd3 Qzi Zd4 Zd5 Zd6 Zd7 Zd8 Zd9 Zea
attribute [go_sem] Zeb Zec Zed Q55 Q56 Q57 Q58 Q59 Q6a Q6b Q6c Q6d Q6e Zmk Zee Qug
attribute [go_sem] Q6f Qzj Q6g Qzk Zef Zeg Zeh Zml Zei Quh Q6h Qzl Q6i Qzm Zej Zek
attribute [go_sem] Zel Zmm Zem Qui Q6j Qzn Q6k Zen Zmn Zeo Quj Q6l Qzo Q6m Zep Zmo
attribute [go_sem] Zeq Quk Q6n Qzp Q6o Zer Zmp Zes Qul Q6p Qzq Zmq Zet Qum Q6q Qzr
attribute [go_sem] Q6r
end Go.Proofs.YtlpiamlgibomhaaGreat

namespace Go.Dg
def digs (B n:Nat):List Nat:=if h:n=0∨B<2 then []else n%B::digs B (n/B)
termination_by n
decreasing_by
 simp only [not_or,Nat.not_lt]at h
 exact Nat.div_lt_self (Nat.pos_of_ne_zero h.1) h.2
def val (B:Nat):List Nat→Nat
 | []=>0
 |d::l=>d+B*val B l
section
variable {B:Nat}
theorem Qay:digs B 0=[]:=by unfold digs;simp
theorem Qfh (hB:2≤B) {n:Nat} (hn:n≠0):digs B n=n%B::digs B (n/B):=by
 conv=>lhs;unfold digs
 rw [dif_neg]
 simp only [not_or,Nat.not_lt]
 exact⟨hn,hB⟩
theorem Qpa (hB:2≤B) (n:Nat):val B (digs B n)=n:=by
 induction n using Nat.strongRecOn with
 |_ n ih=>
  by_cases hn:n=0
  ·subst hn;rw [Qay];rfl
  ·rw [Qfh hB hn]
   simp only [val]
   rw [ih _ (Nat.div_lt_self (Nat.pos_of_ne_zero hn) hB)]
   exact Nat.mod_add_div n B
theorem Qpb (hB:2≤B) (n k:Nat):(digs B n)[k]? =if n/B^k=0 then none else some (n/B^k%B):=by
 induction k generalizing n with
 |zero=>
  by_cases hn:n=0
  ·subst hn;simp [Qay]
  ·rw [Qfh hB hn];simp [hn]
 |succ k ih=>
  by_cases hn:n=0
  ·subst hn;simp [Qay]
  ·rw [Qfh hB hn,List.getElem?_cons_succ,ih]
   have:n/B/B^k=n/B^(k+1):=by rw [Nat.div_div_eq_div_mul,Nat.pow_succ,Nat.mul_comm]
   rw [this]
theorem Qcf (hB:2≤B) (n k:Nat):k<(digs B n).length↔n/B^k≠0:=by
 have:=Qpb hB n k
 constructor
 ·intro h hz
  rw [if_pos hz,List.getElem?_eq_none_iff]at this
  omega
 ·intro h
  rw [if_neg h]at this
  exact(List.getElem?_eq_some_iff.1 this).1
theorem Qaq (hB:2≤B) (n k:Nat):(digs B n).length≤k↔n<B^k:=by
 have h:=Qcf hB n k
 have hp:0<B^k:=Nat.pow_pos (by omega)
 rw [←Nat.not_lt,h,Decidable.not_not,Nat.div_eq_zero_iff]
 omega
theorem Qax (hB:2≤B) (n:Nat):n<B^(digs B n).length:=(Qaq hB n _).1 (Nat.le_refl _)
theorem Qar (hB:2≤B) {n k:Nat} (h:k<(digs B n).length):(digs B n)[k]? =some (n/B^k%B):=by
 rw [Qpb hB,if_neg ((Qcf hB n k).1 h)]
theorem Qlr (hB:2≤B) {n d:Nat} (h:d∈digs B n):d<B:=by
 obtain⟨k,hk⟩:=List.mem_iff_getElem?.1 h
 rw [Qpb hB]at hk
 split at hk
 ·cases hk
 ·cases hk;exact Nat.mod_lt _ (by omega)
theorem Qa8 (hB:2≤B) {n k:Nat} (h:(digs B n).length≤k):n/B^k=0:=by
 have:=(Qaq hB n k).1 h
 exact Nat.div_eq_of_lt this
theorem Qbl (hB:2≤B) {n:Nat}:digs B n=[]↔n=0:=by
 constructor
 ·intro h;have:=Qpa hB n;rw [h]at this;exact this.symm
 ·rintro rfl;exact Qay
def lows (B n i:Nat):List Nat:=(List.range i).map fun k=>n/B^k%B
theorem Qak (n i:Nat):(lows B n i).length=i:=by simp [lows]
theorem Qda (n i:Nat):lows B n (i+1)=lows B n i++[n/B^i%B]:=by simp [lows,List.range_succ]
theorem Qbt (n i k:Nat) (h:k<i):(lows B n i)[k]? =some (n/B^k%B):=by simp [lows,h]
theorem Qq4 (n i:Nat):lows B n (i+1)=n%B::lows B (n/B) i:=by
 simp only [lows,List.range_succ_eq_map,List.map_cons,Nat.pow_zero,Nat.div_one,List.map_map]
 congr 1
 apply List.map_congr_left
 intro k _
 simp only [Function.comp,Nat.succ_eq_add_one]
 rw [Nat.div_div_eq_div_mul,Nat.pow_succ,Nat.mul_comm]
theorem Q8x (hB:0<B) (n i:Nat):val B (lows B n i)=n%B^i:=by
 induction i generalizing n with
 |zero=>simp [lows,val,Nat.mod_one]
 |succ i ih=>
  rw [Qq4]
  simp only [val]
  rw [ih,Nat.pow_succ,Nat.mul_comm (B^i) B,Nat.mod_mul]
theorem Qgk (hB:2≤B) (n:Nat):lows B n (digs B n).length=digs B n:=by
 apply List.ext_getElem?
 intro k
 by_cases hk:k<(digs B n).length
 ·rw [Qbt _ _ _ hk,Qar hB hk]
 ·rw [List.getElem?_eq_none (by rw [Qak];omega),List.getElem?_eq_none (by omega)]
def Qc9 (l:List Nat):List Nat:=(l.reverse.dropWhile (· ==0)).reverse
theorem Qcp (l:List Nat):Qc9 (l++[0])=Qc9 l:=by simp [Qc9]
theorem Qet (l:List Nat) {d:Nat} (h:d≠0):Qc9 (l++[d])=l++[d]:=by simp [Qc9,h]
theorem Q0u:Qc9 []=[]:=rfl
theorem Qn0 (l m:List Nat):val B (l++m)=val B l+B^l.length*val B m:=by
 induction l with
 |nil=>simp [val]
 |cons d l ih=>
  simp only [List.cons_append,val,ih,List.length_cons,Nat.pow_succ]
  rw [Nat.mul_add,Nat.add_assoc,←Nat.mul_assoc,Nat.mul_comm B (B^l.length)]
theorem Znv (hB:0<B) {l:List Nat} (h: ∀d∈l,d<B):val B l<B^l.length:=by
 induction l with
 |nil=>simp [val]
 |cons d l ih=>
  have h1:=ih fun x hx=>h x (by simp [hx])
  have h2:=h d (by simp)
  simp only [val,List.length_cons,Nat.pow_succ]
  have:B*val B l+B≤B*B^l.length:=by rw [←Nat.mul_succ];exact Nat.mul_le_mul_left _ h1
  rw [Nat.mul_comm (B^l.length)]
  omega
theorem Q8y (hB:2≤B) {l:List Nat} (h: ∀d∈l,d<B):lows B (val B l) l.length=l:=by
 induction l with
 |nil=>rfl
 |cons d l ih=>
  have h2:=h d (by simp)
  rw [List.length_cons,Qq4]
  simp only [val]
  rw [Nat.add_mul_mod_self_left,Nat.mod_eq_of_lt h2,Nat.add_mul_div_left _ _ (by omega),Nat.div_eq_of_lt h2,Nat.zero_add,ih fun x hx=>h x (by simp [hx])]
theorem Qlb (hB:2≤B) (l:List Nat) (h: ∀d∈l,d<B):Qc9 l=digs B (val B l):=by
 have key: ∀n,∀l:List Nat,l.length=n→(∀d∈l,d<B)→Qc9 l=digs B (val B l):=by
  intro n
  induction n with
  |zero=>intro l hl _;rw [List.length_eq_zero_iff.1 hl];simp [Q0u,val,Qay]
  |succ n ih=>
   intro l hl h
   have hne:l≠ []:=by rintro rfl;simp at hl
   have hcut:=List.dropLast_concat_getLast hne
   generalize l.dropLast=m at hcut
   generalize l.getLast hne=d at hcut
   subst hcut
   have hm:m.length=n:=by simpa using hl
   have hmd: ∀x∈m,x<B:=fun x hx=>h x (by simp [hx])
   by_cases hd:d=0
   ·subst hd
    rw [Qcp,ih m hm hmd,Qn0]
    simp [val]
   ·rw [Qet m hd]
    have hlen:(digs B (val B (m++[d]))).length=(m++[d]).length:=by
     apply Nat.le_antisymm
     ·exact(Qaq hB _ _).2 (Znv (by omega) h)
     ·have:(m++[d]).length=m.length+1:=by simp
      rw [this]
      apply (Qcf hB _ _).2
      rw [Qn0]
      simp only [val,Nat.mul_zero,Nat.add_zero]
      rw [Nat.add_mul_div_left _ _ (Nat.pow_pos (by omega))]
      exact fun e=>hd (Nat.eq_zero_of_add_eq_zero_left e)
    have:=Qgk hB (val B (m++[d]))
    rw [hlen,Q8y hB h]at this
    exact this
 exact key l.length l rfl h
theorem Qbo (hB:2≤B) (n i:Nat):Qc9 (lows B n i)=digs B (n%B^i):=by
 rw [Qlb hB,Q8x (by omega)]
 intro d hd
 simp only [lows,List.mem_map]at hd
 obtain⟨k,_,rfl⟩:=hd
 exact Nat.mod_lt _ (by omega)
theorem Qxy {l:List Nat} (h: ∀d,l.getLast? =some d→d≠0):Qc9 l=l:=by
 by_cases hne:l=[]
 ·subst hne;rfl
 ·have hcut:=List.dropLast_concat_getLast hne
  have hl:l.getLast? =some (l.getLast hne):=List.getLast?_eq_some_getLast hne
  have:=h _ hl
  rw [←hcut]
  exact Qet _ this
end
end Go.Dg

namespace Go.Proofs.YtlpiamlgibomhaaGreat
open Go.Vl Go.RowKit Go.Dg
def di (l:List Nat):PV:= .slc (l.map fun d:Nat=>PV.int .i64 (d:Int))
theorem Qe1 (l:List Nat) (k:Nat):(l.map fun d:Nat=>PV.int .i64 (d:Int))[k]? =l[k]?.map fun d:Nat=>PV.int .i64 (d:Int):=List.getElem?_map
theorem Zn3 (l:List Nat):((l.map fun d:Nat=>PV.int .i64 (d:Int)).all fun x=>x.cells.length==1)=true:=by rw [List.all_map,List.all_eq_true];intro d _;rfl
theorem wrapn {n:Nat} (h:n<9223372036854775808):IntKind.i64.wrap (n:Int)=n:=Qai (by omega) (by omega)
theorem Qd3 {n:Nat} (h:n<9223372036854775808):IntKind.i64.wrap (((n+1:Nat):Int)-1)=(n:Int):=by
 rw [Qai (by omega) (by omega)];omega
theorem Qfk:maxLen<9223372036854775808:=by simp [maxLen]
theorem Qjr (l:List Nat) (hl:l.length≤maxLen):Qaf Tryz.prog 92 [di l] (di (Qc9 l)):=by
 have hm:=Qfk
 refine Qac (tb:=[]) 21 [.tmp 2] [0,2,14] mixed Tryz.func92 rfl (by kernel_rfl) (by kernel_rfl) (by kernel_rfl) (by kernel_rfl) ?_
 simp -implicitDefEqProofs only [go_sem,Nat.reduceMul,Nat.reduceEqDiff,Nat.reduceLT,Nat.reduceLeDiff,reduceCtorEq,di]
 refine Qao mixed (fun k:{k:Nat // k≤l.length∧Qc9 (l.take k)=Qc9 l}=>St.of [(0,di (l.take k.1)),(2,.nilS)] []) (fun k=>k.1) ⟨l.length,Nat.le_refl _,by rw [List.take_length]⟩ ?_ ?_
 ·exact Qaz (by simp [Qad,lkp,ren1,ren0,di])
 ·rintro⟨k,hk,ht⟩
  have hlen:(l.take k).length=k:=by simp;omega
  cases k with
  |zero=>
   have h1:((0:Int)<((0:Nat):Int))=False:=by simp
   simp -implicitDefEqProofs only [go_sem,Nat.reduceAdd,Nat.reduceMul,Nat.reduceEqDiff,Nat.reduceLT,Nat.reduceLeDiff,reduceCtorEq,di,List.length_map,hlen,h1]
   rw [←ht];rfl
  |succ k=>
   have h1:((0:Int)<((k+1:Nat):Int))=True:=by simp
   have h2:(0≤(k:Int))=True:=by simp
   have hw:=Qd3 (n:=k) (by omega)
   have hlt:k<l.length:=by omega
   have hget:(l.take (k+1))[k]? =some l[k]:=by simp [hlt]
   have hcut:l.take (k+1)=l.take k++[l[k]]:=by rw [List.take_add_one];simp [hlt]
   cases hd:((l[k]:Int)==0)with
   |true=>
    have hd0:l[k]=0:=by simpa using hd
    have h3:((k:Int)≤((k+1:Nat):Int))=True:=by simp;omega
    simp -implicitDefEqProofs only [go_sem,Nat.reduceAdd,Nat.reduceMul,Nat.reduceEqDiff,Nat.reduceLT,Nat.reduceLeDiff,reduceCtorEq,di,List.length_map,hlen,h1,h2,h3,hw,Int.toNat_natCast,Qe1,hget,hd,Zn3]
    refine⟨⟨k,by omega,?_⟩,by simp,?_⟩
    ·rw [←ht,hcut,hd0,Qcp]
    ·refine Qaz (by simp [Qad,lkp,ren1,ren0,di];rw [←List.map_take];simp [List.take_take])
   |false=>
    have hd0:l[k]≠0:=by simpa using hd
    simp -implicitDefEqProofs only [go_sem,Nat.reduceAdd,Nat.reduceMul,Nat.reduceEqDiff,Nat.reduceLT,Nat.reduceLeDiff,reduceCtorEq,di,List.length_map,hlen,h1,h2,hw,Int.toNat_natCast,Qe1,hget,hd]
    rw [←ht,hcut,Qet _ hd0]
end Go.Proofs.YtlpiamlgibomhaaGreat

namespace Go.Dg
section
variable {B:Nat}
def carry (B a b i:Nat):Nat:=(a%B^i+b%B^i)/B^i
theorem Qjn (a b:Nat):carry B a b 0=0:=by simp [carry,Nat.mod_one]
theorem Qph (hB:0<B) (a b i:Nat):carry B a b i≤1:=by
 have hp:0<B^i:=Nat.pow_pos hB
 have h1:=Nat.mod_lt a hp
 have h2:=Nat.mod_lt b hp
 unfold carry
 rw [Nat.div_le_iff_le_mul hp]
 omega
theorem Qpi (hB:0<B) (a b i:Nat):(a/B^i%B+b/B^i%B+carry B a b i)%B=(a+b)/B^i%B∧(a/B^i%B+b/B^i%B+carry B a b i)/B=carry B a b (i+1):=by
 have hp:0<B^i:=Nat.pow_pos hB
 unfold carry
 generalize hP:B^i=P at*
 have e1:(a+b)/P=a/P+b/P+(a%P+b%P)/P:=by
  conv=>lhs;rw [←Nat.div_add_mod a P,←Nat.div_add_mod b P]
  have:P*(a/P)+a%P+(P*(b/P)+b%P)=(a%P+b%P)+P*(a/P+b/P):=by rw [Nat.mul_add];omega
  rw [this,Nat.add_mul_div_left _ _ hp]
  omega
 constructor
 ·rw [e1]
  conv=>rhs;rw [Nat.add_mod,Nat.add_mod (a/P)]
  conv=>lhs;rw [Nat.add_mod,Nat.add_mod (a/P%B)]
  simp
 ·have hP1:B^(i+1)=P*B:=by rw [Nat.pow_succ,hP]
  rw [hP1,Nat.mod_mul,Nat.mod_mul]
  have:a%P+P*(a/P%B)+(b%P+P*(b/P%B))=(a%P+b%P)+P*(a/P%B+b/P%B):=by rw [Nat.mul_add];omega
  rw [this,←Nat.div_div_eq_div_mul,Nat.add_mul_div_left _ _ hp]
  congr 1
  omega
theorem Q0y (hB:0<B) (a b i:Nat):(carry B a b i+a/B^i%B+b/B^i%B)%B=(a+b)/B^i%B∧(carry B a b i+a/B^i%B+b/B^i%B)/B=carry B a b (i+1):=by
 have h:=Qpi hB a b i
 have e:carry B a b i+a/B^i%B+b/B^i%B=a/B^i%B+b/B^i%B+carry B a b i:=by omega
 rw [e];exact h
theorem Qlw (hB:2≤B) {n i:Nat} (h1:n<B^i) (h2: ∀j,j<i→n/B^j≠0):lows B n i=digs B n:=by
 have hl:(digs B n).length=i:=by
  apply Nat.le_antisymm ((Qaq hB n i).2 h1)
  rcases Nat.eq_zero_or_pos i with rfl|hi
  ·exact Nat.zero_le _
  ·have:=(Qcf hB n (i-1)).2 (h2 (i-1) (by omega))
   omega
 rw [←hl,Qgk hB]
theorem Q80 (hB:2≤B) {a b i:Nat} (ha:(digs B a).length≤i) (hb:(digs B b).length≤i) (hc:carry B a b i=0):a+b<B^i:=by
 have h1:=(Qaq hB a i).1 ha
 have h2:=(Qaq hB b i).1 hb
 unfold carry at hc
 rw [Nat.mod_eq_of_lt h1,Nat.mod_eq_of_lt h2,Nat.div_eq_zero_iff]at hc
 have:0<B^i:=Nat.pow_pos (by omega)
 omega
theorem Q81 (hB:2≤B) {a b i:Nat} (h:i<(digs B a).length∨i<(digs B b).length∨0<carry B a b i):(a+b)/B^i≠0:=by
 have hp:0<B^i:=Nat.pow_pos (by omega)
 have hle:B^i≤a+b:=by
  rcases h with h|h|h
  ·have:=(Qcf hB a i).1 h
   have:=Nat.div_eq_zero_iff (a:=a) (b:=B^i)
   omega
  ·have:=(Qcf hB b i).1 h
   have:=Nat.div_eq_zero_iff (a:=b) (b:=B^i)
   omega
  ·unfold carry at h
   have h1:=Nat.mod_le a (B^i)
   have h2:=Nat.mod_le b (B^i)
   have h3:=Nat.div_eq_zero_iff (a:=a%B^i+b%B^i) (b:=B^i)
   omega
 have:=Nat.div_eq_zero_iff (a:=a+b) (b:=B^i)
 omega
end
end Go.Dg

namespace Go.Proofs.YtlpiamlgibomhaaGreat
open Go.Vl Go.RowKit Go.Dg
abbrev E9:Nat:=1000000000
theorem E9_2:2≤E9:=by decide
abbrev fI:Nat→PV:=fun d:Nat=>PV.int .i64 (d:Int)
theorem Qkg (l:List Nat):(((l.map fun d:Nat=>PV.int .i64 (d:Int)).flatMap PV.cells).all PV.okCell)=true:=by
 rw [List.all_eq_true]
 intro x hx
 obtain⟨y,hy,hx⟩:=List.mem_flatMap.1 hx
 obtain⟨d,_,rfl⟩:=List.mem_map.1 hy
 simp only [Zqh,List.mem_singleton]at hx
 subst hx;rfl
theorem Qpt (n:Nat):Int.tmod (n:Int) 1000000000=((n%1000000000:Nat):Int):=by
 rw [Int.tmod_eq_emod_of_nonneg (by omega)];rfl
theorem Qpu (n:Nat):Int.tdiv (n:Int) 1000000000=((n/1000000000:Nat):Int):=by
 rw [Int.tdiv_eq_ediv_of_nonneg (by omega)];rfl
theorem Qci {a b:Nat} (h:a+b<9223372036854775808):IntKind.i64.wrap ((a:Int)+(b:Int))=((a+b:Nat):Int):=by
 rw [Qai (by omega) (by omega)];omega
theorem Qah {a:Nat} (h:a+1<9223372036854775808):IntKind.i64.wrap ((a:Int)+1)=((a+1:Nat):Int):=by
 rw [Qai (by omega) (by omega)];omega
theorem Zig (a b:Nat) (hl:(digs E9 (a+b)).length≤1000000000):Qaf Tryz.prog 133 [di (digs E9 a),di (digs E9 b)] (di (digs E9 (a+b))):=by
 have hm:=Qfk
 refine Qac (tb:=[]) 52 [.tmp 4] [0,1,4,5,6,7,21,27,37] mixed Tryz.func133 rfl (by kernel_rfl) (by kernel_rfl) (by kernel_rfl) (by kernel_rfl) ?_
 simp -implicitDefEqProofs only [go_sem,Nat.reduceAdd,Nat.reduceMul,Nat.reduceEqDiff,Nat.reduceLT,Nat.reduceLeDiff,reduceCtorEq,di]
 refine Qao mixed (fun i:{i:Nat // i≤(digs E9 (a+b)).length∧ ∀j,j<i→(a+b)/E9^j≠0}=>St.of [(0,di (digs E9 a)),(1,di (digs E9 b)),(4,.nilS),(5,.bs 7 1 0 i.1),(6,.int .i64 (carry E9 a b i.1:Int)),(7,.int .i64 (i.1:Int))]
  [(7,{els:=(lows E9 (a+b) i.1).map fI,esz:=1,ety:=3,fro:=0,live:=true,arr:=true})]) (fun i=>(digs E9 (a+b)).length+1-i.1) ⟨0,Nat.zero_le _,by omega⟩ ?_ ?_
 ·refine Qco 5 7 1 3 rfl rfl rfl (by decide) [(7,7)] rfl ?_ ?_
  ·simp [Qad,lkp,ren1,ren0,di,Qjn]
  ·simp [Qal,lkp,Box.renames,lows]
 ·rintro⟨i,hi,hmore⟩
  have h0:(0≤(i:Int))=True:=by simp
  have hll:=Qak (B:=E9) (a+b) i
  have hcle:=Qph (B:=E9) (by decide) a b i
  obtain⟨hs1,hs2⟩:(carry E9 a b i+a/E9^i%E9+b/E9^i%E9)%1000000000=(a+b)/E9^i%E9∧(carry E9 a b i+a/E9^i%E9+b/E9^i%E9)/1000000000=carry E9 a b (i+1):=Q0y (B:=E9) (by decide) a b i
  have hda:a/E9^i%E9<E9:=Nat.mod_lt _ (by decide)
  have hdb:b/E9^i%E9<E9:=Nat.mod_lt _ (by decide)
  have hb1:((i+1)*8≤140737488355328)=True:=by simp;omega
  have hb2:(i+1≤maxLen)=True:=by simp [maxLen];omega
  have hwi:=Qah (a:=i) (by omega)
  have next: ∀s,((i<(digs E9 a).length)∨(i<(digs E9 b).length)∨0<carry E9 a b i)→Le s (St.of [(0,di (digs E9 a)),(1,di (digs E9 b)),(4,.nilS),(5,.bs 7 1 0 (i+1)),(6,.int .i64 (carry E9 a b (i+1):Int)),(7,.int .i64 ((i+1:Nat):Int))]
    [(7,{els:=(lows E9 (a+b) (i+1)).map fI,esz:=1,ety:=3,fro:=0,live:=true,arr:=true})])→
    ∃y:{i:Nat // i≤(digs E9 (a+b)).length∧ ∀j,j<i→(a+b)/E9^j≠0},(digs E9 (a+b)).length+1-y.1<(digs E9 (a+b)).length+1-i∧
     Le s (St.of [(0,di (digs E9 a)),(1,di (digs E9 b)),(4,.nilS),(5,.bs 7 1 0 y.1),(6,.int .i64 (carry E9 a b y.1:Int)),(7,.int .i64 (y.1:Int))]
      [(7,{els:=(lows E9 (a+b) y.1).map fI,esz:=1,ety:=3,fro:=0,live:=true,arr:=true})]):=by
   intro s hc hle
   have hne:=Q81 E9_2 hc
   have hlt:=(Qcf E9_2 _ _).2 hne
   exact⟨⟨i+1,hlt,fun j hj=>(Nat.lt_succ_iff_lt_or_eq.1 hj).elim (hmore j) fun h=>h▸hne⟩,by simp only;omega,hle⟩
  by_cases hA:i<(digs E9 a).length
  ·have hA':((i:Int)<((digs E9 a).length:Int))=True:=by simp;omega
   have hga:=Qar E9_2 hA
   by_cases hB:i<(digs E9 b).length
   ·have hB':((i:Int)<((digs E9 b).length:Int))=True:=by simp;omega
    have hgb:=Qar E9_2 hB
    have w1:=Qci (a:=carry E9 a b i) (b:=a/E9^i%E9) (by simp only [E9]at*;omega)
    have w2:=Qci (a:=carry E9 a b i+a/E9^i%E9) (b:=b/E9^i%E9) (by simp only [E9]at*;omega)
    have w3:=wrapn (n:=(carry E9 a b i+a/E9^i%E9+b/E9^i%E9)/1000000000) (by simp only [E9]at*;omega)
    simp -implicitDefEqProofs only [go_sem,Nat.reduceAdd,Nat.reduceMul,Nat.reduceEqDiff,Nat.reduceLT,Nat.reduceLeDiff,reduceCtorEq,Int.reduceEq,Nat.reduceBneDiff,di,List.length_map,hA',hB',h0,Qe1,hga,hgb,w1,w2,w3,Qpt,Qpu,hll,Qkg,hb1,hb2,hwi]
    refine next _ (.inl hA) (Qaj (θ:=[(7,1004)]) rfl ?_ ?_)
    ·simp [Qad,lkp,ren1,ren0,di,hs2]
    ·simp [Qal,lkp,Box.renames,Qda,hs1]
   ·have hB':((i:Int)<((digs E9 b).length:Int))=False:=by simp;omega
    have hb0:b/E9^i%E9=0:=by rw [Qa8 E9_2 (Nat.le_of_not_lt hB),Nat.zero_mod]
    rw [hb0,Nat.add_zero]at hs1 hs2
    have w1:=Qci (a:=carry E9 a b i) (b:=a/E9^i%E9) (by simp only [E9]at*;omega)
    have w3:=wrapn (n:=(carry E9 a b i+a/E9^i%E9)/1000000000) (by simp only [E9]at*;omega)
    simp -implicitDefEqProofs only [go_sem,Nat.reduceAdd,Nat.reduceMul,Nat.reduceEqDiff,Nat.reduceLT,Nat.reduceLeDiff,reduceCtorEq,Int.reduceEq,Nat.reduceBneDiff,di,List.length_map,hA',hB',h0,Qe1,hga,w1,w3,Qpt,Qpu,hll,Qkg,hb1,hb2,hwi]
    refine next _ (.inl hA) (Qaj (θ:=[(7,1004)]) rfl ?_ ?_)
    ·simp [Qad,lkp,ren1,ren0,di,hs2]
    ·simp [Qal,lkp,Box.renames,Qda,hs1]
  ·have hA':((i:Int)<((digs E9 a).length:Int))=False:=by simp;omega
   have ha0:a/E9^i%E9=0:=by rw [Qa8 E9_2 (Nat.le_of_not_lt hA),Nat.zero_mod]
   rw [ha0,Nat.add_zero]at hs1 hs2
   by_cases hB:i<(digs E9 b).length
   ·have hB':((i:Int)<((digs E9 b).length:Int))=True:=by simp;omega
    have hgb:=Qar E9_2 hB
    have w2:=Qci (a:=carry E9 a b i) (b:=b/E9^i%E9) (by simp only [E9]at*;omega)
    have w3:=wrapn (n:=(carry E9 a b i+b/E9^i%E9)/1000000000) (by simp only [E9]at*;omega)
    simp -implicitDefEqProofs only [go_sem,Nat.reduceAdd,Nat.reduceMul,Nat.reduceEqDiff,Nat.reduceLT,Nat.reduceLeDiff,reduceCtorEq,Int.reduceEq,Nat.reduceBneDiff,di,List.length_map,hA',hB',h0,Qe1,hgb,w2,w3,Qpt,Qpu,hll,Qkg,hb1,hb2,hwi]
    refine next _ (.inr (.inl hB)) (Qaj (θ:=[(7,1004)]) rfl ?_ ?_)
    ·simp [Qad,lkp,ren1,ren0,di,hs2]
    ·simp [Qal,lkp,Box.renames,Qda,hs1]
   ·have hB':((i:Int)<((digs E9 b).length:Int))=False:=by simp;omega
    have hb0:b/E9^i%E9=0:=by rw [Qa8 E9_2 (Nat.le_of_not_lt hB),Nat.zero_mod]
    rw [hb0,Nat.add_zero]at hs1 hs2
    by_cases hC:0<carry E9 a b i
    ·have hC':((0:Int)<(carry E9 a b i:Int))=True:=by simp;omega
     have w3:=wrapn (n:=carry E9 a b i/1000000000) (by simp only [E9]at*;omega)
     simp -implicitDefEqProofs only [go_sem,Nat.reduceAdd,Nat.reduceMul,Nat.reduceEqDiff,Nat.reduceLT,Nat.reduceLeDiff,reduceCtorEq,Int.reduceEq,Nat.reduceBneDiff,di,List.length_map,hA',hB',hC',h0,w3,Qpt,Qpu,hll,Qkg,hb1,hb2,hwi]
     refine next _ (.inr (.inr hC)) (Qaj (θ:=[(7,1004)]) rfl ?_ ?_)
     ·simp [Qad,lkp,ren1,ren0,di,hs2]
     ·simp [Qal,lkp,Box.renames,Qda,hs1]
    ·have hC':((0:Int)<(carry E9 a b i:Int))=False:=by simp;omega
     have hlt:=Q80 E9_2 (Nat.le_of_not_lt hA) (Nat.le_of_not_lt hB) (by omega)
     have hd:=Qlw E9_2 hlt hmore
     have htk:((lows E9 (a+b) i).map fI).take i=(lows E9 (a+b) i).map fI:=List.take_of_length_le (by simp [hll])
     simp -implicitDefEqProofs only [go_sem,Nat.reduceAdd,Nat.reduceMul,Nat.reduceEqDiff,Nat.reduceLT,Nat.reduceLeDiff,reduceCtorEq,di,List.length_map,hA',hB',hC',hll,htk]
     rw [hd]
end Go.Proofs.YtlpiamlgibomhaaGreat

namespace Go.Dg
section
variable {B:Nat}
def cmpN (a b:Nat):Int:=if a<b then -1 else if b<a then 1 else 0
theorem Qpd {a b:Nat} (h:a<b):cmpN a b= -1:=by simp [cmpN,h]
theorem Qs9 {a b:Nat} (h:b<a):cmpN a b=1:=by simp [cmpN,h];omega
theorem Q0v (a:Nat):cmpN a a=0:=by simp [cmpN]
theorem Qvv (hB:2≤B) {a b:Nat} (h:(digs B a).length<(digs B b).length):a<b:=by
 have h1:=Qax hB a
 have h2:=(Qcf hB b _).1 h
 have h3:=Nat.div_eq_zero_iff (a:=b) (b:=B^(digs B a).length)
 have:0<B^(digs B a).length:=Nat.pow_pos (by omega)
 omega
theorem Qhs (hB:0<B) (a i:Nat):a/B^i=B*(a/B^(i+1))+a/B^i%B:=by
 rw [Nat.pow_succ,←Nat.div_div_eq_div_mul]
 exact(Nat.div_add_mod _ _).symm
theorem Qif (hB:0<B) {a b i:Nat} (h:a/B^(i+1)=b/B^(i+1)) (hd:a/B^i%B<b/B^i%B):a<b:=by
 have h1:=Qhs hB a i
 have h2:=Qhs hB b i
 rw [h]at h1
 apply Nat.lt_of_not_le
 intro hle
 have:=Nat.div_le_div_right (c:=B^i) hle
 omega
theorem Qn2 (hB:0<B) {a b i:Nat} (h:a/B^(i+1)=b/B^(i+1)) (hd:a/B^i%B=b/B^i%B):a/B^i=b/B^i:=by
 rw [Qhs hB a i,Qhs hB b i,h,hd]
def bor (B a b i:Nat):Nat:=if a%B^i<b%B^i then 1 else 0
theorem Qpe (a b:Nat):bor B a b 0=0:=by simp [bor,Nat.mod_one]
theorem Qn3 (a b i:Nat):bor B a b i≤1:=by unfold bor;split<;>omega
theorem Q0w (hB:0<B) {a b:Nat} (h:b≤a) (i:Nat):(a-b)/B^i+b/B^i+bor B a b i=a/B^i:=by
 have hp:0<B^i:=Nat.pow_pos hB
 unfold bor
 generalize B^i=P at*
 have ha:=Nat.div_add_mod a P
 have hb:=Nat.div_add_mod b P
 have hm1:=Nat.mod_lt a hp
 have hm2:=Nat.mod_lt b hp
 have hle:b/P≤a/P:=Nat.div_le_div_right h
 generalize a/P=x at*
 generalize b/P=y at*
 generalize a%P=r at*
 generalize b%P=s at*
 obtain⟨z,rfl⟩:=Nat.exists_eq_add_of_le hle
 rw [Nat.mul_add]at ha
 split
 ·rename_i hlt
  have hz:z≠0:=by rintro rfl;rw [Nat.mul_zero]at ha;omega
  obtain⟨z',rfl⟩:=Nat.exists_eq_succ_of_ne_zero hz
  have e:a-b=(P+r-s)+P*z':=by rw [Nat.mul_succ]at ha;omega
  rw [e,Nat.add_mul_div_left _ _ hp,Nat.div_eq_of_lt (by omega)]
  omega
 ·rename_i hlt
  have e:a-b=(r-s)+P*z:=by omega
  rw [e,Nat.add_mul_div_left _ _ hp,Nat.div_eq_of_lt (by omega)]
  omega
theorem Qpf (hB:2≤B) {a b:Nat} (h:b≤a) (i:Nat):
  (a-b)/B^i%B+b/B^i%B+bor B a b i=a/B^i%B+B*bor B a b (i+1):=by
 have hB0:0<B:=by omega
 have h1:=Q0w hB0 h i
 have h2:=Q0w hB0 h (i+1)
 have e1:=Qhs hB0 (a-b) i
 have e2:=Qhs hB0 b i
 have e3:=Qhs hB0 a i
 have hm:=Nat.mul_add B ((a-b)/B^(i+1)+b/B^(i+1)) (bor B a b (i+1))
 have hm2:=Nat.mul_add B ((a-b)/B^(i+1)) (b/B^(i+1))
 rw [h2]at hm
 omega
def mix (B V S n m:Nat):List Nat:=(List.range n).map fun j=>if j<m then V/B^j%B else S/B^j%B
theorem Qbh (V S n m:Nat):(mix B V S n m).length=n:=by simp [mix]
theorem Qcq (V S n m j:Nat) (h:j<n):(mix B V S n m)[j]? =some (if j<m then V/B^j%B else S/B^j%B):=by simp [mix,h]
theorem Qls (hB:0<B) {V W m j:Nat} (h:V%B^m=W%B^m) (hj:j<m):V/B^j%B=W/B^j%B:=by
 have key: ∀n,n/B^j%B=(n%B^m)/B^j%B:=by
  intro n
  have e:B^m=B^j*(B*B^(m-j-1)):=by
   rw [←Nat.mul_assoc,←Nat.pow_succ,←Nat.pow_add];congr 1;omega
  rw [e,Nat.mod_mul_right_div_self,Nat.mod_mul_right_mod]
 rw [key V,key W,h]
theorem Qd9 (hB:0<B) {V W S n m d:Nat} (hm:m<n) (h:V%B^m=W%B^m) (hd:W/B^m%B=d):(mix B V S n m).set m d=mix B W S n (m+1):=by
 apply List.ext_getElem?
 intro j
 rw [List.getElem?_set]
 by_cases hj:j<n
 ·rw [Qcq _ _ _ _ _ hj,Qcq _ _ _ _ _ hj,Qbh]
  by_cases e:m=j
  ·subst e;simp [hj,hd]
  ·simp only [e,if_false]
   by_cases hlt:j<m
   ·rw [if_pos hlt,if_pos (by omega),Qls hB h hlt]
   ·rw [if_neg hlt,if_neg (by omega)]
 ·rw [List.getElem?_eq_none (by rw [Qbh];omega),List.getElem?_eq_none (by rw [Qbh];omega),Qbh]
  simp;omega
theorem Qez {V S n m:Nat} (hB:0<B) (h:V/B^m=S/B^m):mix B V S n m=lows B V n:=by
 apply List.map_congr_left
 intro j _
 split
 ·rfl
 ·rename_i hj
  obtain⟨k,rfl⟩:=Nat.exists_eq_add_of_le (Nat.le_of_not_lt hj)
  rw [Nat.pow_add,←Nat.div_div_eq_div_mul,←Nat.div_div_eq_div_mul,h]
theorem Qg5 (V S n:Nat):mix B V S n 0=lows B S n:=by simp [mix,lows]
def mulV (B S x i b k:Nat):Nat:=S+x*B^i*(b%B^k)
theorem Qlt (S x i b:Nat):mulV B S x i b 0=S:=by simp [mulV,Nat.mod_one]
theorem Qq5 (S x i b k:Nat):mulV B S x i b (k+1)=mulV B S x i b k+x*(b/B^k%B)*B^(i+k):=by
 unfold mulV
 rw [Nat.pow_succ,Nat.mod_mul,Nat.mul_add,Nat.pow_add]
 have:x*B^i*(B^k*(b/B^k%B))=x*(b/B^k%B)*(B^i*B^k):=by
  simp only [Nat.mul_assoc,Nat.mul_comm,Nat.mul_left_comm]
 rw [this];omega
def mulC (B S x i b k:Nat):Nat:=mulV B S x i b k/B^(i+k)-S/B^(i+k)
theorem Zhl (S x i b k:Nat):S≤mulV B S x i b k:=Nat.le_add_right _ _
theorem Qlc (S x i b k:Nat):mulC B S x i b k+S/B^(i+k)=mulV B S x i b k/B^(i+k):=by
 have:=Nat.div_le_div_right (c:=B^(i+k)) (Zhl (B:=B) S x i b k)
 unfold mulC
 omega
theorem Qlu (S x i b:Nat):mulC B S x i b 0=0:=by simp [mulC,Qlt]
theorem Qpg (hB:0<B) (S x i b k:Nat):
  (S/B^(i+k)%B+mulC B S x i b k+x*(b/B^k%B))%B=mulV B S x i b (k+1)/B^(i+k)%B∧
  (S/B^(i+k)%B+mulC B S x i b k+x*(b/B^k%B))/B=mulC B S x i b (k+1):=by
 have hp:0<B^(i+k):=Nat.pow_pos hB
 have h1:=Qlc (B:=B) S x i b k
 have e1:mulV B S x i b (k+1)/B^(i+k)=(S/B^(i+k)%B+mulC B S x i b k+x*(b/B^k%B))+B*(S/B^(i+k+1)):=by
  rw [Qq5,Nat.add_mul_div_right _ _ hp,←h1]
  have:=Qhs hB S (i+k)
  omega
 constructor
 ·rw [e1,Nat.add_mul_mod_self_left]
 ·have h2:=Qlc (B:=B) S x i b (k+1)
  have e2:mulV B S x i b (k+1)/B^(i+(k+1))=mulV B S x i b (k+1)/B^(i+k)/B:=by
   rw [Nat.div_div_eq_div_mul,←Nat.pow_succ];rfl
  rw [e1,Nat.add_mul_div_left _ _ hB]at e2
  have e3:S/B^(i+(k+1))=S/B^(i+k+1):=rfl
  omega
theorem Qvw (S x i b k:Nat):mulV B S x i b k%B^(i+k)=mulV B S x i b (k+1)%B^(i+k):=by
 rw [Qq5,Nat.add_mul_mod_self_right]
theorem Qlv (a i b k:Nat) (hk:b<B^k):mulV B (a%B^i*b) (a/B^i%B) i b k=a%B^(i+1)*b:=by
 unfold mulV
 rw [Nat.mod_eq_of_lt hk,Nat.pow_succ,Nat.mod_mul,Nat.add_mul]
 congr 1
 rw [Nat.mul_comm (a/B^i%B)]
theorem Q0x (hB:0<B) {S x i b k:Nat} (hx:x<B):mulC B S x i b k<B:=by
 induction k with
 |zero=>rw [Qlu];exact hB
 |succ k ih=>
  rw [←(Qpg hB S x i b k).2,Nat.div_lt_iff_lt_mul hB]
  have h1:S/B^(i+k)%B<B:=Nat.mod_lt _ hB
  have h2:b/B^k%B<B:=Nat.mod_lt _ hB
  have h3:x*(b/B^k%B)≤(B-1)*(B-1):=Nat.mul_le_mul (by omega) (by omega)
  have h4:B*B=(B-1)*(B-1)+2*(B-1)+1:=by
   obtain⟨c,rfl⟩: ∃c,B=c+1:=⟨B-1,by omega⟩
   simp only [Nat.add_sub_cancel,Nat.add_mul,Nat.mul_add]
   omega
  omega
theorem Q8z (hB:0<B) {a i b k:Nat} (hk:b<B^k):mulC B (a%B^i*b) (a/B^i%B) i b (k+1)=0:=by
 unfold mulC
 rw [Qlv a i b (k+1) (Nat.lt_of_lt_of_le hk (Nat.pow_le_pow_right hB (Nat.le_succ k)))]
 have:a%B^(i+1)*b<B^(i+(k+1)):=by
  have h1:=Nat.mod_lt a (Nat.pow_pos (n:=i+1) hB)
  have e:B^(i+(k+1))=B^(i+1)*B^k:=by rw [←Nat.pow_add];congr 1;omega
  rw [e]
  rcases Nat.eq_zero_or_pos b with rfl|hb
  ·rw [Nat.mul_zero];exact Nat.mul_pos (Nat.pow_pos hB) (Nat.pow_pos hB)
  ·exact Nat.lt_of_lt_of_le (Nat.mul_lt_mul_of_pos_right h1 hb) (Nat.mul_le_mul_left _ (Nat.le_of_lt hk))
 rw [Nat.div_eq_of_lt this,Nat.zero_sub]
end
end Go.Dg

namespace Go.Proofs.YtlpiamlgibomhaaGreat
open Go.Vl Go.RowKit Go.Dg
theorem Qpv (a b:Nat) (ha:(digs E9 a).length≤1000000000):Qaf Tryz.prog 134 [di (digs E9 a),di (digs E9 b)] (.int .i64 (cmpN a b)):=by
 refine Qac (tb:=[]) 41 [.tmp 4] [0,1,4,5,10,15,20,31,40] mixed Tryz.func134 rfl (by kernel_rfl) (by kernel_rfl) (by kernel_rfl) (by kernel_rfl) ?_
 by_cases hl:(digs E9 a).length=(digs E9 b).length
 ·have hl':(((digs E9 a).length:Int) != ((digs E9 b).length:Int))=false:=by simp [hl]
  have hw:IntKind.i64.wrap (((digs E9 a).length:Int)-1)=((digs E9 a).length:Int)-1:=Qai (by omega) (by omega)
  simp -implicitDefEqProofs only [go_sem,Nat.reduceAdd,Nat.reduceMul,Nat.reduceEqDiff,Nat.reduceLT,Nat.reduceLeDiff,reduceCtorEq,Int.reduceNeg,di,List.length_map,hl',hw]
  refine Qao mixed (fun i:{i:Nat // i≤(digs E9 a).length∧a/E9^i=b/E9^i}=>St.of [(0,di (digs E9 a)),(1,di (digs E9 b)),(4,.int .i64 0),(5,.int .i64 ((i.1:Int)-1))] []) (fun i=>i.1)
   ⟨(digs E9 a).length,Nat.le_refl _,by rw [Qa8 E9_2 (Nat.le_refl _),hl,Qa8 E9_2 (Nat.le_refl _)]⟩ ?_ ?_
  ·exact Qaz (by simp [Qad,lkp,ren1,ren0,di])
  ·rintro⟨i,hi,he⟩
   cases i with
   |zero=>
    have h1:((0:Int)≤((0:Nat):Int)-1)=False:=by simp
    have hab:a=b:=by simpa using he
    subst hab
    simp -implicitDefEqProofs only [go_sem,Nat.reduceAdd,Nat.reduceMul,Nat.reduceEqDiff,Nat.reduceLT,Nat.reduceLeDiff,reduceCtorEq,Int.reduceNeg,di,h1,Q0v]
   |succ i=>
    have hs:(((i+1:Nat):Int)-1)=(i:Int):=by omega
    have h1:((0:Int)≤(i:Int))=True:=by simp
    have hga:=Qar E9_2 (show i<(digs E9 a).length by omega)
    have hgb:=Qar E9_2 (show i<(digs E9 b).length by omega)
    by_cases hlt:a/E9^i%E9<b/E9^i%E9
    ·have h2:(((a/E9^i%E9:Nat):Int)<((b/E9^i%E9:Nat):Int))=True:=by simp only [eq_iff_iff,iff_true];omega
     have hc:=Qpd (Qif (by decide) he hlt)
     simp -implicitDefEqProofs only [go_sem,Nat.reduceAdd,Nat.reduceMul,Nat.reduceEqDiff,Nat.reduceLT,Nat.reduceLeDiff,reduceCtorEq,Int.reduceNeg,di,hs,h1,Qe1,hga,hgb,h2,hc]
     exact Qaa _ _ (by kernel_rfl)
    ·have h2:(((a/E9^i%E9:Nat):Int)<((b/E9^i%E9:Nat):Int))=False:=by simp only [eq_iff_iff,iff_false];omega
     by_cases hgt:b/E9^i%E9<a/E9^i%E9
     ·have h3:(((b/E9^i%E9:Nat):Int)<((a/E9^i%E9:Nat):Int))=True:=by simp only [eq_iff_iff,iff_true];omega
      have hc:=Qs9 (Qif (by decide) he.symm hgt)
      simp -implicitDefEqProofs only [go_sem,Nat.reduceAdd,Nat.reduceMul,Nat.reduceEqDiff,Nat.reduceLT,Nat.reduceLeDiff,reduceCtorEq,Int.reduceNeg,di,hs,h1,Qe1,hga,hgb,h2,h3,hc]
      exact⟨Qaa _ _ (by kernel_rfl),Qaa _ _ (by kernel_rfl)⟩
     ·have h3:(((b/E9^i%E9:Nat):Int)<((a/E9^i%E9:Nat):Int))=False:=by simp only [eq_iff_iff,iff_false];omega
      have hw2:IntKind.i64.wrap ((i:Int)-1)=(i:Int)-1:=Qai (by omega) (by omega)
      simp -implicitDefEqProofs only [go_sem,Nat.reduceAdd,Nat.reduceMul,Nat.reduceEqDiff,Nat.reduceLT,Nat.reduceLeDiff,reduceCtorEq,Int.reduceNeg,di,hs,h1,Qe1,hga,hgb,h2,h3,hw2]
      refine⟨Qaa _ _ (by kernel_rfl),Qaa _ _ (by kernel_rfl),⟨i,by omega,Qn2 (by decide) he (by omega)⟩,by simp,?_⟩
      exact Qaz (by simp [Qad,lkp,ren1,ren0,di])
 ·have hl':(((digs E9 a).length:Int) != ((digs E9 b).length:Int))=true:=by simp;omega
  by_cases hlt:(digs E9 a).length<(digs E9 b).length
  ·have h2:(((digs E9 a).length:Int)<((digs E9 b).length:Int))=True:=by simp;omega
   have hc:=Qpd (Qvv E9_2 hlt)
   simp -implicitDefEqProofs only [go_sem,Nat.reduceAdd,Nat.reduceMul,Nat.reduceEqDiff,Nat.reduceLT,Nat.reduceLeDiff,reduceCtorEq,Int.reduceNeg,di,List.length_map,hl',h2,hc]
  ·have h2:(((digs E9 a).length:Int)<((digs E9 b).length:Int))=False:=by simp;omega
   have hc:=Qs9 (Qvv E9_2 (show(digs E9 b).length<(digs E9 a).length by omega))
   simp -implicitDefEqProofs only [go_sem,Nat.reduceAdd,Nat.reduceMul,Nat.reduceEqDiff,Nat.reduceLT,Nat.reduceLeDiff,reduceCtorEq,Int.reduceNeg,di,List.length_map,hl',h2,hc]
def rI (n:Int):PV:= .agg [.bool (decide (n<0)),di (digs E9 n.natAbs)]
theorem Qfz (neg:Bool) (m:Nat):Qaf Tryz.prog 91 [.bool neg,di (digs E9 m)] (rI (if neg then -(m:Int)else m)):=by
 refine Qac (tb:=[]) 13 [.cell 4 44] [0,1,4] mixed Tryz.func91 rfl (by kernel_rfl) (by kernel_rfl) (by kernel_rfl) (by kernel_rfl) ?_
 by_cases hm:m=0
 ·subst hm
  cases neg
  ·simp -implicitDefEqProofs only [go_sem,Nat.reduceAdd,Nat.reduceMul,Nat.reduceEqDiff,Nat.reduceLT,Nat.reduceLeDiff,reduceCtorEq,di,rI,Qay,Int.natAbs_zero,Int.lt_irrefl]
   simp [Qay]
  ·simp -implicitDefEqProofs only [go_sem,Nat.reduceAdd,Nat.reduceMul,Nat.reduceEqDiff,Nat.reduceLT,Nat.reduceLeDiff,reduceCtorEq,di,rI,Qay]
   simp [Qay]
 ·have h1:((0:Int)<((digs E9 m).length:Int))=True:=by
   have:=mt (Qbl E9_2).1 hm
   simp only [eq_iff_iff,iff_true]
   have:=List.length_pos_iff.2 this
   omega
  cases neg
  ·simp -implicitDefEqProofs only [go_sem,Nat.reduceAdd,Nat.reduceMul,Nat.reduceEqDiff,Nat.reduceLT,Nat.reduceLeDiff,reduceCtorEq,di,rI,List.length_map,h1]
   have: ¬((m:Int)<0):=by omega
   simp [this]
  ·simp -implicitDefEqProofs only [go_sem,Nat.reduceAdd,Nat.reduceMul,Nat.reduceEqDiff,Nat.reduceLT,Nat.reduceLeDiff,reduceCtorEq,di,rI,List.length_map,h1]
   have: -(m:Int)<0:=by omega
   simp only [this,decide_true,Int.natAbs_neg,Int.natAbs_natCast]
end Go.Proofs.YtlpiamlgibomhaaGreat
