/-
  HTy, Dg, HA1, Dn, HA2, Dm (merged for the claim).
-/
import Derived.Test.YtciddhkfbgkejaaGreatDoorUV
import Derived.Test.YtciddhkfbgkejaaGreatDoorProg
set_option linter.unusedSimpArgs false
set_option linter.unusedVariables false
namespace Go.Proofs.YtciddhkfbgkejaaGreatDoor
open Go.Vl
theorem mixed:Tryz.prog.follows .mixedOrders=true:=by kernel_rfl
theorem Zsv:tyOk Tryz.prog 3=true:=by kernel_rfl
theorem Zp0:Qb8 Tryz.prog 3=false:=by kernel_rfl
theorem Q3e:(Tryz.prog.info? 3).isSome=true:=by kernel_rfl
theorem Zj4:Qaz Tryz.prog 3=some (1,8):=by kernel_rfl
theorem Zay:Tryz.prog.cellsOf 3=1:=by kernel_rfl
theorem Zj5:Qa5 Tryz.prog 3=some (PV.int IntKind.i64 0):=by kernel_rfl
theorem Zp1:Tryz.prog.underlying 3=some (.int .i64):=by kernel_rfl
theorem Zsw:tyOk Tryz.prog 4=true:=by kernel_rfl
theorem Zp2:Qb8 Tryz.prog 4=false:=by kernel_rfl
theorem Q3f:(Tryz.prog.info? 4).isSome=true:=by kernel_rfl
theorem Zj6:Qaz Tryz.prog 4=some (1,1):=by kernel_rfl
theorem Zaz:Tryz.prog.cellsOf 4=1:=by kernel_rfl
theorem Zj7:Qa5 Tryz.prog 4=some (PV.bool Bool.false):=by kernel_rfl
theorem Zj8:Tryz.prog.underlying 4=some .bool:=by kernel_rfl
theorem Zsx:tyOk Tryz.prog 5=true:=by kernel_rfl
theorem Zp3:Qb8 Tryz.prog 5=false:=by kernel_rfl
theorem Q3g:(Tryz.prog.info? 5).isSome=true:=by kernel_rfl
theorem Zj9:Qaz Tryz.prog 5=some (1,1):=by kernel_rfl
theorem Za0:Tryz.prog.cellsOf 5=1:=by kernel_rfl
theorem Zka:Qa5 Tryz.prog 5=some (PV.int IntKind.u8 0):=by kernel_rfl
theorem Zp4:Tryz.prog.underlying 5=some (.int .u8):=by kernel_rfl
theorem Zsy:tyOk Tryz.prog 9=true:=by kernel_rfl
theorem Zp5:Qb8 Tryz.prog 9=false:=by kernel_rfl
theorem Q3h:(Tryz.prog.info? 9).isSome=true:=by kernel_rfl
theorem Zkb:Qaz Tryz.prog 9=some (1,16):=by kernel_rfl
theorem Za1:Tryz.prog.cellsOf 9=1:=by kernel_rfl
theorem Zkc:Qa5 Tryz.prog 9=some (PV.str {data:={toList:=[]}}):=by kernel_rfl
theorem Zhy:Tryz.prog.underlying 9=some .string:=by kernel_rfl
theorem Zkd (s:ByteArray):Qbq Tryz.prog 9 (.str s)=some (.int .i64 s.size):=by simp only [Qbq,Zhy]
theorem Zp6:tyOk Tryz.prog 22=true:=by kernel_rfl
theorem Zke:Qb8 Tryz.prog 22=false:=by kernel_rfl
theorem Qyd:(Tryz.prog.info? 22).isSome=true:=by kernel_rfl
theorem Za2:Qaz Tryz.prog 22=some (1,24):=by kernel_rfl
theorem Q3i:Tryz.prog.cellsOf 22=1:=by kernel_rfl
theorem Za3:Qa5 Tryz.prog 22=some PV.nilS:=by kernel_rfl
theorem Za4:Qb2 Tryz.prog 22=some 34:=by kernel_rfl
theorem Qiv:Tryz.prog.underlying 22=some (.slice 34):=by kernel_rfl
theorem Za5 (es:List PV):Qbq Tryz.prog 22 (.slc es)=some (.int .i64 es.length):=by simp only [Qbq,Qiv]
theorem Za6:Qbq Tryz.prog 22 .nilS=some (.int .i64 0):=by simp only [Qbq,Qiv]
theorem Za7 (b e o n:Nat):Qbq Tryz.prog 22 (.bs b e o n)=some (.int .i64 n):=by simp only [Qbq,Qiv]
theorem Zp7:tyOk Tryz.prog 26=true:=by kernel_rfl
theorem Zkf:Qb8 Tryz.prog 26=true:=by kernel_rfl
theorem Qye:(Tryz.prog.info? 26).isSome=true:=by kernel_rfl
theorem Za8:Qaz Tryz.prog 26=some (3,24):=by kernel_rfl
theorem Q3j:Tryz.prog.cellsOf 26=3:=by kernel_rfl
theorem Za9:Qa5 Tryz.prog 26=some (PV.agg [PV.int IntKind.i64 0,PV.int IntKind.i64 0,PV.int IntKind.i64 0]):=by kernel_rfl
theorem Q3k:buildable Tryz.prog 26=true:=by kernel_rfl
theorem Zkg:Qa0 Tryz.prog 26 0=some (0,3,1):=by kernel_rfl
theorem Zkh:Qae Tryz.prog 26 0=some (0,1):=by kernel_rfl
theorem Zki:Qa0 Tryz.prog 26 1=some (1,3,1):=by kernel_rfl
theorem Zkj:Qae Tryz.prog 26 1=some (1,1):=by kernel_rfl
theorem Zkk:Qa0 Tryz.prog 26 2=some (2,3,1):=by kernel_rfl
theorem Zkl:Qae Tryz.prog 26 2=some (2,1):=by kernel_rfl
theorem Zkm:Qc2 Tryz.prog 26=some [1,1,1]:=by kernel_rfl
theorem Zp8:tyOk Tryz.prog 27=true:=by kernel_rfl
theorem Zkn:Qb8 Tryz.prog 27=false:=by kernel_rfl
theorem Qyf:(Tryz.prog.info? 27).isSome=true:=by kernel_rfl
theorem Zba:Qaz Tryz.prog 27=some (1,24):=by kernel_rfl
theorem Q3l:Tryz.prog.cellsOf 27=1:=by kernel_rfl
theorem Zbb:Qa5 Tryz.prog 27=some PV.nilS:=by kernel_rfl
theorem Zbc:Qb2 Tryz.prog 27=some 3:=by kernel_rfl
theorem Qiw:Tryz.prog.underlying 27=some (.slice 3):=by kernel_rfl
theorem Zbd (es:List PV):Qbq Tryz.prog 27 (.slc es)=some (.int .i64 es.length):=by simp only [Qbq,Qiw]
theorem Zbe:Qbq Tryz.prog 27 .nilS=some (.int .i64 0):=by simp only [Qbq,Qiw]
theorem Zbf (b e o n:Nat):Qbq Tryz.prog 27 (.bs b e o n)=some (.int .i64 n):=by simp only [Qbq,Qiw]
theorem Zp9:tyOk Tryz.prog 28=true:=by kernel_rfl
theorem Zko:Qb8 Tryz.prog 28=false:=by kernel_rfl
theorem Qyg:(Tryz.prog.info? 28).isSome=true:=by kernel_rfl
theorem Zbg:Qaz Tryz.prog 28=some (1,8):=by kernel_rfl
theorem Q3m:Tryz.prog.cellsOf 28=1:=by kernel_rfl
theorem Zbh:Qa5 Tryz.prog 28=some (PV.int IntKind.i64 0):=by kernel_rfl
theorem Zkp:Tryz.prog.underlying 28=some (.int .i64):=by kernel_rfl
theorem Zqa:tyOk Tryz.prog 34=true:=by kernel_rfl
theorem Zkq:Qb8 Tryz.prog 34=true:=by kernel_rfl
theorem Qyh:(Tryz.prog.info? 34).isSome=true:=by kernel_rfl
theorem Zbi:Qaz Tryz.prog 34=some (11,88):=by kernel_rfl
theorem Q3n:Tryz.prog.cellsOf 34=11:=by kernel_rfl
theorem Zbj:Qa5 Tryz.prog 34=some (PV.agg [PV.int IntKind.i64 0,PV.int IntKind.i64 0,PV.int IntKind.i64 0,PV.int IntKind.i64 0,PV.int IntKind.i64 0,PV.int IntKind.i64 0,PV.int IntKind.i64 0,PV.int IntKind.i64 0,PV.int IntKind.i64 0,PV.int IntKind.i64 0,PV.int IntKind.i64 0]):=by kernel_rfl
theorem Q3o:buildable Tryz.prog 34=true:=by kernel_rfl
theorem Zkr:Qa0 Tryz.prog 34 0=some (0,26,3):=by kernel_rfl
theorem Zks:Qae Tryz.prog 34 0=some (0,3):=by kernel_rfl
theorem Zkt:Qa0 Tryz.prog 34 1=some (3,26,3):=by kernel_rfl
theorem Zku:Qae Tryz.prog 34 1=some (3,3):=by kernel_rfl
theorem Zkv:Qa0 Tryz.prog 34 2=some (6,3,1):=by kernel_rfl
theorem Zkw:Qae Tryz.prog 34 2=some (6,1):=by kernel_rfl
theorem Zkx:Qa0 Tryz.prog 34 3=some (7,3,1):=by kernel_rfl
theorem Zky:Qae Tryz.prog 34 3=some (7,1):=by kernel_rfl
theorem Zkz:Qa0 Tryz.prog 34 4=some (8,26,3):=by kernel_rfl
theorem Zk0:Qae Tryz.prog 34 4=some (8,3):=by kernel_rfl
theorem Zk1:Qc2 Tryz.prog 34=some [1,1,1,1,1,1,1,1,1,1,1]:=by kernel_rfl
theorem Zqb:tyOk Tryz.prog 44=true:=by kernel_rfl
theorem Zk2:Qb8 Tryz.prog 44=false:=by kernel_rfl
theorem Qyi:(Tryz.prog.info? 44).isSome=true:=by kernel_rfl
theorem Zbk:Qaz Tryz.prog 44=some (1,24):=by kernel_rfl
theorem Q3p:Tryz.prog.cellsOf 44=1:=by kernel_rfl
theorem Zbl:Qa5 Tryz.prog 44=some PV.nilS:=by kernel_rfl
theorem Zbm:Qb2 Tryz.prog 44=some 56:=by kernel_rfl
theorem Qix:Tryz.prog.underlying 44=some (.slice 56):=by kernel_rfl
theorem Zbn (es:List PV):Qbq Tryz.prog 44 (.slc es)=some (.int .i64 es.length):=by simp only [Qbq,Qix]
theorem Zbo:Qbq Tryz.prog 44 .nilS=some (.int .i64 0):=by simp only [Qbq,Qix]
theorem Zbp (b e o n:Nat):Qbq Tryz.prog 44 (.bs b e o n)=some (.int .i64 n):=by simp only [Qbq,Qix]
theorem Zqc:tyOk Tryz.prog 46=true:=by kernel_rfl
theorem Zk3:Qb8 Tryz.prog 46=false:=by kernel_rfl
theorem Qyj:(Tryz.prog.info? 46).isSome=true:=by kernel_rfl
theorem Zbq:Qaz Tryz.prog 46=some (1,24):=by kernel_rfl
theorem Q3q:Tryz.prog.cellsOf 46=1:=by kernel_rfl
theorem Zbr:Qa5 Tryz.prog 46=some PV.nilS:=by kernel_rfl
theorem Zbs:Qb2 Tryz.prog 46=some 26:=by kernel_rfl
theorem Qiy:Tryz.prog.underlying 46=some (.slice 26):=by kernel_rfl
theorem Zbt (es:List PV):Qbq Tryz.prog 46 (.slc es)=some (.int .i64 es.length):=by simp only [Qbq,Qiy]
theorem Zbu:Qbq Tryz.prog 46 .nilS=some (.int .i64 0):=by simp only [Qbq,Qiy]
theorem Zbv (b e o n:Nat):Qbq Tryz.prog 46 (.bs b e o n)=some (.int .i64 n):=by simp only [Qbq,Qiy]
theorem Zqd:tyOk Tryz.prog 56=true:=by kernel_rfl
theorem Zk4:Qb8 Tryz.prog 56=true:=by kernel_rfl
theorem Qyk:(Tryz.prog.info? 56).isSome=true:=by kernel_rfl
theorem Zbw:Qaz Tryz.prog 56=some (6,96):=by kernel_rfl
theorem Q3r:Tryz.prog.cellsOf 56=6:=by kernel_rfl
theorem Zbx:Qa5 Tryz.prog 56=some (PV.agg [PV.int IntKind.i64 0,PV.int IntKind.i64 0,PV.int IntKind.i64 0,PV.nilS,PV.nilS,PV.nilS]):=by kernel_rfl
theorem Q3s:buildable Tryz.prog 56=true:=by kernel_rfl
theorem Zk5:Qa0 Tryz.prog 56 0=some (0,3,1):=by kernel_rfl
theorem Zk6:Qae Tryz.prog 56 0=some (0,1):=by kernel_rfl
theorem Zk7:Qa0 Tryz.prog 56 1=some (1,3,1):=by kernel_rfl
theorem Zk8:Qae Tryz.prog 56 1=some (1,1):=by kernel_rfl
theorem Zk9:Qa0 Tryz.prog 56 2=some (2,3,1):=by kernel_rfl
theorem Zla:Qae Tryz.prog 56 2=some (2,1):=by kernel_rfl
theorem Zlb:Qa0 Tryz.prog 56 3=some (3,27,1):=by kernel_rfl
theorem Zlc:Qae Tryz.prog 56 3=some (3,1):=by kernel_rfl
theorem Zld:Qa0 Tryz.prog 56 4=some (4,27,1):=by kernel_rfl
theorem Zle:Qae Tryz.prog 56 4=some (4,1):=by kernel_rfl
theorem Zlf:Qa0 Tryz.prog 56 5=some (5,27,1):=by kernel_rfl
theorem Zlg:Qae Tryz.prog 56 5=some (5,1):=by kernel_rfl
theorem Zqe:tyOk Tryz.prog 59=true:=by kernel_rfl
theorem Zlh:Qb8 Tryz.prog 59=true:=by kernel_rfl
theorem Qyl:(Tryz.prog.info? 59).isSome=true:=by kernel_rfl
theorem Zby:Qaz Tryz.prog 59=some (5,40):=by kernel_rfl
theorem Q3t:Tryz.prog.cellsOf 59=5:=by kernel_rfl
theorem Zbz:Qa5 Tryz.prog 59=some (PV.agg [PV.int IntKind.i64 0,PV.int IntKind.i64 0,PV.int IntKind.i64 0,PV.int IntKind.i64 0,PV.int IntKind.i64 0]):=by kernel_rfl
theorem Q3u:buildable Tryz.prog 59=true:=by kernel_rfl
theorem Zli:Qa0 Tryz.prog 59 0=some (0,3,1):=by kernel_rfl
theorem Zlj:Qae Tryz.prog 59 0=some (0,1):=by kernel_rfl
theorem Zlk:Qa0 Tryz.prog 59 1=some (1,3,1):=by kernel_rfl
theorem Zll:Qae Tryz.prog 59 1=some (1,1):=by kernel_rfl
theorem Zlm:Qa0 Tryz.prog 59 2=some (2,3,1):=by kernel_rfl
theorem Zln:Qae Tryz.prog 59 2=some (2,1):=by kernel_rfl
theorem Zlo:Qa0 Tryz.prog 59 3=some (3,3,1):=by kernel_rfl
theorem Zlp:Qae Tryz.prog 59 3=some (3,1):=by kernel_rfl
theorem Zlq:Qa0 Tryz.prog 59 4=some (4,3,1):=by kernel_rfl
theorem Zlr:Qae Tryz.prog 59 4=some (4,1):=by kernel_rfl
theorem Zls:Qc2 Tryz.prog 59=some [1,1,1,1,1]:=by kernel_rfl
theorem Zqf:tyOk Tryz.prog 71=true:=by kernel_rfl
theorem Zlt:Qb8 Tryz.prog 71=true:=by kernel_rfl
theorem Qym:(Tryz.prog.info? 71).isSome=true:=by kernel_rfl
theorem Zb0:Qaz Tryz.prog 71=some (2,24):=by kernel_rfl
theorem Q3v:Tryz.prog.cellsOf 71=2:=by kernel_rfl
theorem Zb1:Qa5 Tryz.prog 71=some (PV.agg [PV.bool Bool.false,PV.str {data:={toList:=[]}}]):=by kernel_rfl
theorem Q3w:buildable Tryz.prog 71=true:=by kernel_rfl
theorem Zlu:Qa0 Tryz.prog 71 0=some (0,4,1):=by kernel_rfl
theorem Zlv:Qae Tryz.prog 71 0=some (0,1):=by kernel_rfl
theorem Zlw:Qa0 Tryz.prog 71 1=some (1,9,1):=by kernel_rfl
theorem Zlx:Qae Tryz.prog 71 1=some (1,1):=by kernel_rfl
theorem Zly:Qc2 Tryz.prog 71=some [0,2]:=by kernel_rfl
theorem Zqg:tyOk Tryz.prog 73=true:=by kernel_rfl
theorem Zlz:Qb8 Tryz.prog 73=true:=by kernel_rfl
theorem Qyn:(Tryz.prog.info? 73).isSome=true:=by kernel_rfl
theorem Zb2:Qaz Tryz.prog 73=some (8,96):=by kernel_rfl
theorem Q3x:Tryz.prog.cellsOf 73=8:=by kernel_rfl
theorem Zb3:Qa5 Tryz.prog 73=some (PV.agg [PV.bool Bool.false,PV.str {data:={toList:=[]}},PV.bool Bool.false,PV.str {data:={toList:=[]}},PV.bool Bool.false,PV.str {data:={toList:=[]}},PV.bool Bool.false,PV.str {data:={toList:=[]}}]):=by kernel_rfl
theorem Q3y:buildable Tryz.prog 73=true:=by kernel_rfl
theorem Zl0:Qa0 Tryz.prog 73 0=some (0,71,2):=by kernel_rfl
theorem Zl1:Qae Tryz.prog 73 0=some (0,2):=by kernel_rfl
theorem Zl2:Qa0 Tryz.prog 73 1=some (2,71,2):=by kernel_rfl
theorem Zl3:Qae Tryz.prog 73 1=some (2,2):=by kernel_rfl
theorem Zl4:Qa0 Tryz.prog 73 2=some (4,71,2):=by kernel_rfl
theorem Zl5:Qae Tryz.prog 73 2=some (4,2):=by kernel_rfl
theorem Zl6:Qa0 Tryz.prog 73 3=some (6,71,2):=by kernel_rfl
theorem Zl7:Qae Tryz.prog 73 3=some (6,2):=by kernel_rfl
theorem Zl8:Qc2 Tryz.prog 73=some [0,2,0,2,0,2,0,2]:=by kernel_rfl
theorem Zqh:tyOk Tryz.prog 74=true:=by kernel_rfl
theorem Zl9:Qb8 Tryz.prog 74=false:=by kernel_rfl
theorem Qyo:(Tryz.prog.info? 74).isSome=true:=by kernel_rfl
theorem Zb4:Qaz Tryz.prog 74=some (1,24):=by kernel_rfl
theorem Q3z:Tryz.prog.cellsOf 74=1:=by kernel_rfl
theorem Zb5:Qa5 Tryz.prog 74=some PV.nilS:=by kernel_rfl
theorem Zb6:Qb2 Tryz.prog 74=some 76:=by kernel_rfl
theorem Qiz:Tryz.prog.underlying 74=some (.slice 76):=by kernel_rfl
theorem Zb7 (es:List PV):Qbq Tryz.prog 74 (.slc es)=some (.int .i64 es.length):=by simp only [Qbq,Qiz]
theorem Zb8:Qbq Tryz.prog 74 .nilS=some (.int .i64 0):=by simp only [Qbq,Qiz]
theorem Zb9 (b e o n:Nat):Qbq Tryz.prog 74 (.bs b e o n)=some (.int .i64 n):=by simp only [Qbq,Qiz]
theorem Zqi:tyOk Tryz.prog 76=true:=by kernel_rfl
theorem Zma:Qb8 Tryz.prog 76=true:=by kernel_rfl
theorem Qyp:(Tryz.prog.info? 76).isSome=true:=by kernel_rfl
theorem Zca:Qaz Tryz.prog 76=some (2,32):=by kernel_rfl
theorem Q30:Tryz.prog.cellsOf 76=2:=by kernel_rfl
theorem Zcb:Qa5 Tryz.prog 76=some (PV.agg [PV.bool Bool.false,PV.nilS]):=by kernel_rfl
theorem Q31:buildable Tryz.prog 76=true:=by kernel_rfl
theorem Zmb:Qa0 Tryz.prog 76 0=some (0,4,1):=by kernel_rfl
theorem Zmc:Qae Tryz.prog 76 0=some (0,1):=by kernel_rfl
theorem Zmd:Qa0 Tryz.prog 76 1=some (1,27,1):=by kernel_rfl
theorem Zme:Qae Tryz.prog 76 1=some (1,1):=by kernel_rfl
theorem Zqj:tyOk Tryz.prog 78=true:=by kernel_rfl
theorem Zmf:Qb8 Tryz.prog 78=true:=by kernel_rfl
theorem Qyq:(Tryz.prog.info? 78).isSome=true:=by kernel_rfl
theorem Zcc:Qaz Tryz.prog 78=some (3,56):=by kernel_rfl
theorem Q32:Tryz.prog.cellsOf 78=3:=by kernel_rfl
theorem Zcd:Qa5 Tryz.prog 78=some (PV.agg [PV.nilS,PV.bool Bool.false,PV.nilS]):=by kernel_rfl
theorem Q33:buildable Tryz.prog 78=true:=by kernel_rfl
theorem Zmg:Qa0 Tryz.prog 78 0=some (0,74,1):=by kernel_rfl
theorem Zmh:Qae Tryz.prog 78 0=some (0,1):=by kernel_rfl
theorem Zmi:Qa0 Tryz.prog 78 1=some (1,76,2):=by kernel_rfl
theorem Zmj:Qae Tryz.prog 78 1=some (1,2):=by kernel_rfl
theorem Zqk:tyOk Tryz.prog 87=true:=by kernel_rfl
theorem Zmk:Qb8 Tryz.prog 87=true:=by kernel_rfl
theorem Qyr:(Tryz.prog.info? 87).isSome=true:=by kernel_rfl
theorem Zce:Qaz Tryz.prog 87=some (3,24):=by kernel_rfl
theorem Q34:Tryz.prog.cellsOf 87=3:=by kernel_rfl
theorem Zcf:Qa5 Tryz.prog 87=some (PV.agg [PV.int IntKind.i64 0,PV.int IntKind.i64 0,PV.int IntKind.i64 0]):=by kernel_rfl
theorem Zml:Qgk Tryz.prog 87=some (3,3):=by kernel_rfl
theorem Q35:buildable Tryz.prog 87=true:=by kernel_rfl
theorem Zmm:Qae Tryz.prog 87 0=some (0,1):=by kernel_rfl
theorem Zmn:Qae Tryz.prog 87 1=some (1,1):=by kernel_rfl
theorem Zmo:Qae Tryz.prog 87 2=some (2,1):=by kernel_rfl
theorem Zmp:Qae Tryz.prog 87 3=some (3,1):=by kernel_rfl
theorem Zmq:Qae Tryz.prog 87 4=some (4,1):=by kernel_rfl
theorem Zmr:Qae Tryz.prog 87 5=some (5,1):=by kernel_rfl
theorem Zms:Qae Tryz.prog 87 6=some (6,1):=by kernel_rfl
theorem Zmt:Qae Tryz.prog 87 7=some (7,1):=by kernel_rfl
theorem Zmu:Qae Tryz.prog 87 8=some (8,1):=by kernel_rfl
theorem Zmv:Qae Tryz.prog 87 9=some (9,1):=by kernel_rfl
theorem Zcg:Qae Tryz.prog 87 10=some (10,1):=by kernel_rfl
theorem Zch:Qae Tryz.prog 87 11=some (11,1):=by kernel_rfl
theorem Zci:Qae Tryz.prog 87 12=some (12,1):=by kernel_rfl
theorem Zcj:Qae Tryz.prog 87 13=some (13,1):=by kernel_rfl
theorem Zck:Qae Tryz.prog 87 14=some (14,1):=by kernel_rfl
theorem Zcl:Qae Tryz.prog 87 15=some (15,1):=by kernel_rfl
theorem Zcm:Qae Tryz.prog 87 16=some (16,1):=by kernel_rfl
theorem Zcn:Qae Tryz.prog 87 17=some (17,1):=by kernel_rfl
theorem Zco:Qae Tryz.prog 87 18=some (18,1):=by kernel_rfl
theorem Zcp:Qae Tryz.prog 87 19=some (19,1):=by kernel_rfl
theorem Zql:tyOk Tryz.prog 89=true:=by kernel_rfl
theorem Zmw:Qb8 Tryz.prog 89=false:=by kernel_rfl
theorem Qys:(Tryz.prog.info? 89).isSome=true:=by kernel_rfl
theorem Zcq:Qaz Tryz.prog 89=some (1,8):=by kernel_rfl
theorem Q36:Tryz.prog.cellsOf 89=1:=by kernel_rfl
theorem Zcr:Qa5 Tryz.prog 89=some PV.nilF:=by kernel_rfl
theorem Zqm:tyOk Tryz.prog 92=true:=by kernel_rfl
theorem Zmx:Qb8 Tryz.prog 92=false:=by kernel_rfl
theorem Qyt:(Tryz.prog.info? 92).isSome=true:=by kernel_rfl
theorem Zcs:Qaz Tryz.prog 92=some (1,8):=by kernel_rfl
theorem Q37:Tryz.prog.cellsOf 92=1:=by kernel_rfl
theorem Zct:Qa5 Tryz.prog 92=some PV.nilF:=by kernel_rfl
theorem Zqn:tyOk Tryz.prog 93=true:=by kernel_rfl
theorem Zmy:Qb8 Tryz.prog 93=false:=by kernel_rfl
theorem Qyu:(Tryz.prog.info? 93).isSome=true:=by kernel_rfl
theorem Zcu:Qaz Tryz.prog 93=some (1,8):=by kernel_rfl
theorem Q38:Tryz.prog.cellsOf 93=1:=by kernel_rfl
theorem Zcv:Qa5 Tryz.prog 93=some (PV.int IntKind.u64 0):=by kernel_rfl
theorem Zmz:Tryz.prog.underlying 93=some (.int .u64):=by kernel_rfl
theorem Zqo:tyOk Tryz.prog 94=true:=by kernel_rfl
theorem Zm0:Qb8 Tryz.prog 94=false:=by kernel_rfl
theorem Qyv:(Tryz.prog.info? 94).isSome=true:=by kernel_rfl
theorem Zcw:Qaz Tryz.prog 94=some (1,8):=by kernel_rfl
theorem Q39:Tryz.prog.cellsOf 94=1:=by kernel_rfl
theorem Zcx:Qa5 Tryz.prog 94=some (PV.int IntKind.u64 0):=by kernel_rfl
theorem Zm1:Tryz.prog.underlying 94=some (.int .u64):=by kernel_rfl
theorem Zm2:tyOk Tryz.prog 109=true:=by kernel_rfl
theorem Zcy:Qb8 Tryz.prog 109=true:=by kernel_rfl
theorem Qt9:(Tryz.prog.info? 109).isSome=true:=by kernel_rfl
theorem Q4a:Qaz Tryz.prog 109=some (6,72):=by kernel_rfl
theorem Qyw:Tryz.prog.cellsOf 109=6:=by kernel_rfl
theorem Q4b:Qa5 Tryz.prog 109=some (PV.agg [PV.bool Bool.false,PV.str {data:={toList:=[]}},PV.bool Bool.false,PV.str {data:={toList:=[]}},PV.bool Bool.false,PV.str {data:={toList:=[]}}]):=by kernel_rfl
theorem Zcz:Qgk Tryz.prog 109=some (3,71):=by kernel_rfl
theorem Qyx:buildable Tryz.prog 109=true:=by kernel_rfl
theorem Zc0:Qae Tryz.prog 109 0=some (0,2):=by kernel_rfl
theorem Zc1:Qae Tryz.prog 109 1=some (2,2):=by kernel_rfl
theorem Zc2:Qae Tryz.prog 109 2=some (4,2):=by kernel_rfl
theorem Zc3:Qae Tryz.prog 109 3=some (6,2):=by kernel_rfl
theorem Zc4:Qae Tryz.prog 109 4=some (8,2):=by kernel_rfl
theorem Zc5:Qae Tryz.prog 109 5=some (10,2):=by kernel_rfl
theorem Zc6:Qae Tryz.prog 109 6=some (12,2):=by kernel_rfl
theorem Zc7:Qae Tryz.prog 109 7=some (14,2):=by kernel_rfl
theorem Zc8:Qae Tryz.prog 109 8=some (16,2):=by kernel_rfl
theorem Zc9:Qae Tryz.prog 109 9=some (18,2):=by kernel_rfl
theorem Q4c:Qae Tryz.prog 109 10=some (20,2):=by kernel_rfl
theorem Q4d:Qae Tryz.prog 109 11=some (22,2):=by kernel_rfl
theorem Q4e:Qae Tryz.prog 109 12=some (24,2):=by kernel_rfl
theorem Q4f:Qae Tryz.prog 109 13=some (26,2):=by kernel_rfl
theorem Q4g:Qae Tryz.prog 109 14=some (28,2):=by kernel_rfl
theorem Q4h:Qae Tryz.prog 109 15=some (30,2):=by kernel_rfl
theorem Q4i:Qae Tryz.prog 109 16=some (32,2):=by kernel_rfl
theorem Q4j:Qae Tryz.prog 109 17=some (34,2):=by kernel_rfl
theorem Q4k:Qae Tryz.prog 109 18=some (36,2):=by kernel_rfl
theorem Q4l:Qae Tryz.prog 109 19=some (38,2):=by kernel_rfl
theorem Zm3:tyOk Tryz.prog 118=true:=by kernel_rfl
theorem Zda:Qb8 Tryz.prog 118=true:=by kernel_rfl
theorem Qua:(Tryz.prog.info? 118).isSome=true:=by kernel_rfl
theorem Q4m:Qaz Tryz.prog 118=some (4,64):=by kernel_rfl
theorem Qyy:Tryz.prog.cellsOf 118=4:=by kernel_rfl
theorem Q4n:Qa5 Tryz.prog 118=some (PV.agg [PV.bool Bool.false,PV.nilS,PV.bool Bool.false,PV.nilS]):=by kernel_rfl
theorem Qyz:buildable Tryz.prog 118=true:=by kernel_rfl
theorem Zdb:Qa0 Tryz.prog 118 0=some (0,76,2):=by kernel_rfl
theorem Zdc:Qae Tryz.prog 118 0=some (0,2):=by kernel_rfl
theorem Zdd:Qa0 Tryz.prog 118 1=some (2,76,2):=by kernel_rfl
theorem Zde:Qae Tryz.prog 118 1=some (2,2):=by kernel_rfl
theorem Zm4:tyOk Tryz.prog 124=true:=by kernel_rfl
theorem Zdf:Qb8 Tryz.prog 124=false:=by kernel_rfl
theorem Qub:(Tryz.prog.info? 124).isSome=true:=by kernel_rfl
theorem Q4o:Qaz Tryz.prog 124=some (1,24):=by kernel_rfl
theorem Qy0:Tryz.prog.cellsOf 124=1:=by kernel_rfl
theorem Q4p:Qa5 Tryz.prog 124=some PV.nilS:=by kernel_rfl
theorem Q4q:Qb2 Tryz.prog 124=some 27:=by kernel_rfl
theorem Qhf:Tryz.prog.underlying 124=some (.slice 27):=by kernel_rfl
theorem Q4r (es:List PV):Qbq Tryz.prog 124 (.slc es)=some (.int .i64 es.length):=by simp only [Qbq,Qhf]
theorem Q4s:Qbq Tryz.prog 124 .nilS=some (.int .i64 0):=by simp only [Qbq,Qhf]
theorem Q4t (b e o n:Nat):Qbq Tryz.prog 124 (.bs b e o n)=some (.int .i64 n):=by simp only [Qbq,Qhf]
theorem Zm5:tyOk Tryz.prog 158=true:=by kernel_rfl
theorem Zdg:Qb8 Tryz.prog 158=false:=by kernel_rfl
theorem Quc:(Tryz.prog.info? 158).isSome=true:=by kernel_rfl
theorem Q4u:Qaz Tryz.prog 158=some (1,24):=by kernel_rfl
theorem Qy1:Tryz.prog.cellsOf 158=1:=by kernel_rfl
theorem Q4v:Qa5 Tryz.prog 158=some PV.nilS:=by kernel_rfl
theorem Q4w:Qb2 Tryz.prog 158=some 162:=by kernel_rfl
theorem Qhg:Tryz.prog.underlying 158=some (.slice 162):=by kernel_rfl
theorem Q4x (es:List PV):Qbq Tryz.prog 158 (.slc es)=some (.int .i64 es.length):=by simp only [Qbq,Qhg]
theorem Q4y:Qbq Tryz.prog 158 .nilS=some (.int .i64 0):=by simp only [Qbq,Qhg]
theorem Q4z (b e o n:Nat):Qbq Tryz.prog 158 (.bs b e o n)=some (.int .i64 n):=by simp only [Qbq,Qhg]
theorem Zm6:tyOk Tryz.prog 160=true:=by kernel_rfl
theorem Zdh:Qb8 Tryz.prog 160=true:=by kernel_rfl
theorem Qud:(Tryz.prog.info? 160).isSome=true:=by kernel_rfl
theorem Q40:Qaz Tryz.prog 160=some (2,32):=by kernel_rfl
theorem Qy2:Tryz.prog.cellsOf 160=2:=by kernel_rfl
theorem Q41:Qa5 Tryz.prog 160=some (PV.agg [PV.bool Bool.false,PV.nilS]):=by kernel_rfl
theorem Qy3:buildable Tryz.prog 160=true:=by kernel_rfl
theorem Zdi:Qa0 Tryz.prog 160 0=some (0,4,1):=by kernel_rfl
theorem Zdj:Qae Tryz.prog 160 0=some (0,1):=by kernel_rfl
theorem Zdk:Qa0 Tryz.prog 160 1=some (1,158,1):=by kernel_rfl
theorem Zdl:Qae Tryz.prog 160 1=some (1,1):=by kernel_rfl
theorem Zm7:tyOk Tryz.prog 162=true:=by kernel_rfl
theorem Zdm:Qb8 Tryz.prog 162=false:=by kernel_rfl
theorem Que:(Tryz.prog.info? 162).isSome=true:=by kernel_rfl
theorem Q42:Qaz Tryz.prog 162=some (1,8):=by kernel_rfl
theorem Qy4:Tryz.prog.cellsOf 162=1:=by kernel_rfl
theorem Q43:Qa5 Tryz.prog 162=some (PV.int IntKind.u64 0):=by kernel_rfl
theorem Zdn:Tryz.prog.underlying 162=some (.int .u64):=by kernel_rfl
theorem Zm8:tyOk Tryz.prog 169=true:=by kernel_rfl
theorem Zdo:Qb8 Tryz.prog 169=true:=by kernel_rfl
theorem Quf:(Tryz.prog.info? 169).isSome=true:=by kernel_rfl
theorem Q44:Qaz Tryz.prog 169=some (3,72):=by kernel_rfl
theorem Qy5:Tryz.prog.cellsOf 169=3:=by kernel_rfl
theorem Q45:Qa5 Tryz.prog 169=some (PV.agg [PV.nilS,PV.nilS,PV.nilS]):=by kernel_rfl
theorem Zdp:Qgk Tryz.prog 169=some (3,27):=by kernel_rfl
theorem Qy6:buildable Tryz.prog 169=true:=by kernel_rfl
theorem Zdq:Qae Tryz.prog 169 0=some (0,1):=by kernel_rfl
theorem Zdr:Qae Tryz.prog 169 1=some (1,1):=by kernel_rfl
theorem Zds:Qae Tryz.prog 169 2=some (2,1):=by kernel_rfl
theorem Zdt:Qae Tryz.prog 169 3=some (3,1):=by kernel_rfl
theorem Zdu:Qae Tryz.prog 169 4=some (4,1):=by kernel_rfl
theorem Zdv:Qae Tryz.prog 169 5=some (5,1):=by kernel_rfl
theorem Zdw:Qae Tryz.prog 169 6=some (6,1):=by kernel_rfl
theorem Zdx:Qae Tryz.prog 169 7=some (7,1):=by kernel_rfl
theorem Zdy:Qae Tryz.prog 169 8=some (8,1):=by kernel_rfl
theorem Zdz:Qae Tryz.prog 169 9=some (9,1):=by kernel_rfl
theorem Q46:Qae Tryz.prog 169 10=some (10,1):=by kernel_rfl
theorem Q47:Qae Tryz.prog 169 11=some (11,1):=by kernel_rfl
theorem Q48:Qae Tryz.prog 169 12=some (12,1):=by kernel_rfl
theorem Q49:Qae Tryz.prog 169 13=some (13,1):=by kernel_rfl
theorem Q5a:Qae Tryz.prog 169 14=some (14,1):=by kernel_rfl
theorem Q5b:Qae Tryz.prog 169 15=some (15,1):=by kernel_rfl
theorem Q5c:Qae Tryz.prog 169 16=some (16,1):=by kernel_rfl
theorem Q5d:Qae Tryz.prog 169 17=some (17,1):=by kernel_rfl
theorem Q5e:Qae Tryz.prog 169 18=some (18,1):=by kernel_rfl
theorem Q5f:Qae Tryz.prog 169 19=some (19,1):=by kernel_rfl
theorem Zm9:tyOk Tryz.prog 173=true:=by kernel_rfl
theorem Zd0:Qb8 Tryz.prog 173=true:=by kernel_rfl
theorem Qug:(Tryz.prog.info? 173).isSome=true:=by kernel_rfl
theorem Q5g:Qaz Tryz.prog 173=some (4,48):=by kernel_rfl
theorem Qy7:Tryz.prog.cellsOf 173=4:=by kernel_rfl
theorem Q5h:Qa5 Tryz.prog 173=some (PV.agg [PV.bool Bool.false,PV.str {data:={toList:=[]}},PV.bool Bool.false,PV.str {data:={toList:=[]}}]):=by kernel_rfl
theorem Qy8:buildable Tryz.prog 173=true:=by kernel_rfl
theorem Zd1:Qa0 Tryz.prog 173 0=some (0,71,2):=by kernel_rfl
theorem Zd2:Qae Tryz.prog 173 0=some (0,2):=by kernel_rfl
theorem Zd3:Qa0 Tryz.prog 173 1=some (2,71,2):=by kernel_rfl
theorem Zd4:Qae Tryz.prog 173 1=some (2,2):=by kernel_rfl
theorem Zd5:Qc2 Tryz.prog 173=some [0,2,0,2]:=by kernel_rfl
theorem Zna:tyOk Tryz.prog 178=true:=by kernel_rfl
theorem Zd6:Qb8 Tryz.prog 178=true:=by kernel_rfl
theorem Quh:(Tryz.prog.info? 178).isSome=true:=by kernel_rfl
theorem Q5i:Qaz Tryz.prog 178=some (2,32):=by kernel_rfl
theorem Qy9:Tryz.prog.cellsOf 178=2:=by kernel_rfl
theorem Q5j:Qa5 Tryz.prog 178=some (PV.agg [PV.nilS,PV.int IntKind.i64 0]):=by kernel_rfl
theorem Qza:buildable Tryz.prog 178=true:=by kernel_rfl
theorem Zd7:Qa0 Tryz.prog 178 0=some (0,27,1):=by kernel_rfl
theorem Zd8:Qae Tryz.prog 178 0=some (0,1):=by kernel_rfl
theorem Zd9:Qa0 Tryz.prog 178 1=some (1,3,1):=by kernel_rfl
theorem Zea:Qae Tryz.prog 178 1=some (1,1):=by kernel_rfl
theorem Znb:tyOk Tryz.prog 179=true:=by kernel_rfl
theorem Zeb:Qb8 Tryz.prog 179=true:=by kernel_rfl
theorem Qui:(Tryz.prog.info? 179).isSome=true:=by kernel_rfl
theorem Q5k:Qaz Tryz.prog 179=some (6,96):=by kernel_rfl
theorem Qzb:Tryz.prog.cellsOf 179=6:=by kernel_rfl
theorem Q5l:Qa5 Tryz.prog 179=some (PV.agg [PV.nilS,PV.int IntKind.i64 0,PV.nilS,PV.int IntKind.i64 0,PV.nilS,PV.int IntKind.i64 0]):=by kernel_rfl
theorem Zec:Qgk Tryz.prog 179=some (3,178):=by kernel_rfl
theorem Qzc:buildable Tryz.prog 179=true:=by kernel_rfl
theorem Zed:Qae Tryz.prog 179 0=some (0,2):=by kernel_rfl
theorem Zee:Qae Tryz.prog 179 1=some (2,2):=by kernel_rfl
theorem Zef:Qae Tryz.prog 179 2=some (4,2):=by kernel_rfl
theorem Zeg:Qae Tryz.prog 179 3=some (6,2):=by kernel_rfl
theorem Zeh:Qae Tryz.prog 179 4=some (8,2):=by kernel_rfl
theorem Zei:Qae Tryz.prog 179 5=some (10,2):=by kernel_rfl
theorem Zej:Qae Tryz.prog 179 6=some (12,2):=by kernel_rfl
theorem Zek:Qae Tryz.prog 179 7=some (14,2):=by kernel_rfl
theorem Zel:Qae Tryz.prog 179 8=some (16,2):=by kernel_rfl
theorem Zem:Qae Tryz.prog 179 9=some (18,2):=by kernel_rfl
theorem Q5m:Qae Tryz.prog 179 10=some (20,2):=by kernel_rfl
theorem Q5n:Qae Tryz.prog 179 11=some (22,2):=by kernel_rfl
theorem Q5o:Qae Tryz.prog 179 12=some (24,2):=by kernel_rfl
theorem Q5p:Qae Tryz.prog 179 13=some (26,2):=by kernel_rfl
theorem Q5q:Qae Tryz.prog 179 14=some (28,2):=by kernel_rfl
theorem Q5r:Qae Tryz.prog 179 15=some (30,2):=by kernel_rfl
theorem Q5s:Qae Tryz.prog 179 16=some (32,2):=by kernel_rfl
theorem Q5t:Qae Tryz.prog 179 17=some (34,2):=by kernel_rfl
theorem Q5u:Qae Tryz.prog 179 18=some (36,2):=by kernel_rfl
theorem Q5v:Qae Tryz.prog 179 19=some (38,2):=by kernel_rfl
theorem Znc:tyOk Tryz.prog 191=true:=by kernel_rfl
theorem Zen:Qb8 Tryz.prog 191=false:=by kernel_rfl
theorem Quj:(Tryz.prog.info? 191).isSome=true:=by kernel_rfl
theorem Q5w:Qaz Tryz.prog 191=some (1,24):=by kernel_rfl
theorem Qzd:Tryz.prog.cellsOf 191=1:=by kernel_rfl
theorem Q5x:Qa5 Tryz.prog 191=some PV.nilS:=by kernel_rfl
theorem Q5y:Qb2 Tryz.prog 191=some 5:=by kernel_rfl
theorem Qhh:Tryz.prog.underlying 191=some (.slice 5):=by kernel_rfl
theorem Q5z (es:List PV):Qbq Tryz.prog 191 (.slc es)=some (.int .i64 es.length):=by simp only [Qbq,Qhh]
theorem Q50:Qbq Tryz.prog 191 .nilS=some (.int .i64 0):=by simp only [Qbq,Qhh]
theorem Q51 (b e o n:Nat):Qbq Tryz.prog 191 (.bs b e o n)=some (.int .i64 n):=by simp only [Qbq,Qhh]
theorem Znd:tyOk Tryz.prog 204=true:=by kernel_rfl
theorem Zeo:Qb8 Tryz.prog 204=false:=by kernel_rfl
theorem Quk:(Tryz.prog.info? 204).isSome=true:=by kernel_rfl
theorem Q52:Qaz Tryz.prog 204=some (1,4):=by kernel_rfl
theorem Qze:Tryz.prog.cellsOf 204=1:=by kernel_rfl
theorem Q53:Qa5 Tryz.prog 204=some (PV.int IntKind.u32 0):=by kernel_rfl
theorem Zep:Tryz.prog.underlying 204=some (.int .u32):=by kernel_rfl
theorem Zne:tyOk Tryz.prog 216=true:=by kernel_rfl
theorem Zeq:Qb8 Tryz.prog 216=true:=by kernel_rfl
theorem Qul:(Tryz.prog.info? 216).isSome=true:=by kernel_rfl
theorem Q54:Qaz Tryz.prog 216=some (6,48):=by kernel_rfl
theorem Qzf:Tryz.prog.cellsOf 216=6:=by kernel_rfl
theorem Q55:Qa5 Tryz.prog 216=some (PV.agg [PV.int IntKind.i64 0,PV.int IntKind.i64 0,PV.int IntKind.i64 0,PV.int IntKind.i64 0,PV.int IntKind.i64 0,PV.int IntKind.i64 0]):=by kernel_rfl
theorem Zer:Qgk Tryz.prog 216=some (6,3):=by kernel_rfl
theorem Qzg:buildable Tryz.prog 216=true:=by kernel_rfl
theorem Zes:Qae Tryz.prog 216 0=some (0,1):=by kernel_rfl
theorem Zet:Qae Tryz.prog 216 1=some (1,1):=by kernel_rfl
theorem Zeu:Qae Tryz.prog 216 2=some (2,1):=by kernel_rfl
theorem Zev:Qae Tryz.prog 216 3=some (3,1):=by kernel_rfl
theorem Zew:Qae Tryz.prog 216 4=some (4,1):=by kernel_rfl
theorem Zex:Qae Tryz.prog 216 5=some (5,1):=by kernel_rfl
theorem Zey:Qae Tryz.prog 216 6=some (6,1):=by kernel_rfl
theorem Zez:Qae Tryz.prog 216 7=some (7,1):=by kernel_rfl
theorem Ze0:Qae Tryz.prog 216 8=some (8,1):=by kernel_rfl
theorem Ze1:Qae Tryz.prog 216 9=some (9,1):=by kernel_rfl
theorem Q56:Qae Tryz.prog 216 10=some (10,1):=by kernel_rfl
theorem Q57:Qae Tryz.prog 216 11=some (11,1):=by kernel_rfl
theorem Q58:Qae Tryz.prog 216 12=some (12,1):=by kernel_rfl
theorem Q59:Qae Tryz.prog 216 13=some (13,1):=by kernel_rfl
theorem Q6a:Qae Tryz.prog 216 14=some (14,1):=by kernel_rfl
theorem Q6b:Qae Tryz.prog 216 15=some (15,1):=by kernel_rfl
theorem Q6c:Qae Tryz.prog 216 16=some (16,1):=by kernel_rfl
theorem Q6d:Qae Tryz.prog 216 17=some (17,1):=by kernel_rfl
theorem Q6e:Qae Tryz.prog 216 18=some (18,1):=by kernel_rfl
theorem Q6f:Qae Tryz.prog 216 19=some (19,1):=by kernel_rfl
theorem Znf:tyOk Tryz.prog 217=true:=by kernel_rfl
theorem Ze2:Qb8 Tryz.prog 217=true:=by kernel_rfl
theorem Qum:(Tryz.prog.info? 217).isSome=true:=by kernel_rfl
theorem Q6g:Qaz Tryz.prog 217=some (36,288):=by kernel_rfl
theorem Qzh:Tryz.prog.cellsOf 217=36:=by kernel_rfl
theorem Q6h:Qa5 Tryz.prog 217=some (PV.agg [PV.int IntKind.i64 0,PV.int IntKind.i64 0,PV.int IntKind.i64 0,PV.int IntKind.i64 0,PV.int IntKind.i64 0,PV.int IntKind.i64 0,PV.int IntKind.i64 0,PV.int IntKind.i64 0,PV.int IntKind.i64 0,PV.int IntKind.i64 0,PV.int IntKind.i64 0,PV.int IntKind.i64 0,PV.int IntKind.i64 0,PV.int IntKind.i64 0,PV.int IntKind.i64 0,PV.int IntKind.i64 0,PV.int IntKind.i64 0,PV.int IntKind.i64 0,PV.int IntKind.i64 0,PV.int IntKind.i64 0,PV.int IntKind.i64 0,PV.int IntKind.i64 0,PV.int IntKind.i64 0,PV.int IntKind.i64 0,PV.int IntKind.i64 0,PV.int IntKind.i64 0,PV.int IntKind.i64 0,PV.int IntKind.i64 0,PV.int IntKind.i64 0,PV.int IntKind.i64 0,PV.int IntKind.i64 0,PV.int IntKind.i64 0,PV.int IntKind.i64 0,PV.int IntKind.i64 0,PV.int IntKind.i64 0,PV.int IntKind.i64 0]):=by kernel_rfl
theorem Ze3:Qgk Tryz.prog 217=some (6,216):=by kernel_rfl
theorem Qzi:buildable Tryz.prog 217=true:=by kernel_rfl
theorem Ze4:Qae Tryz.prog 217 0=some (0,6):=by kernel_rfl
theorem Ze5:Qae Tryz.prog 217 1=some (6,6):=by kernel_rfl
theorem Ze6:Qae Tryz.prog 217 2=some (12,6):=by kernel_rfl
theorem Ze7:Qae Tryz.prog 217 3=some (18,6):=by kernel_rfl
theorem Ze8:Qae Tryz.prog 217 4=some (24,6):=by kernel_rfl
theorem Ze9:Qae Tryz.prog 217 5=some (30,6):=by kernel_rfl
theorem Zfa:Qae Tryz.prog 217 6=some (36,6):=by kernel_rfl
theorem Zfb:Qae Tryz.prog 217 7=some (42,6):=by kernel_rfl
theorem Zfc:Qae Tryz.prog 217 8=some (48,6):=by kernel_rfl
theorem Zfd:Qae Tryz.prog 217 9=some (54,6):=by kernel_rfl
theorem Q6i:Qae Tryz.prog 217 10=some (60,6):=by kernel_rfl
theorem Q6j:Qae Tryz.prog 217 11=some (66,6):=by kernel_rfl
theorem Q6k:Qae Tryz.prog 217 12=some (72,6):=by kernel_rfl
theorem Q6l:Qae Tryz.prog 217 13=some (78,6):=by kernel_rfl
theorem Q6m:Qae Tryz.prog 217 14=some (84,6):=by kernel_rfl
theorem Q6n:Qae Tryz.prog 217 15=some (90,6):=by kernel_rfl
theorem Q6o:Qae Tryz.prog 217 16=some (96,6):=by kernel_rfl
theorem Q6p:Qae Tryz.prog 217 17=some (102,6):=by kernel_rfl
theorem Q6q:Qae Tryz.prog 217 18=some (108,6):=by kernel_rfl
theorem Q6r:Qae Tryz.prog 217 19=some (114,6):=by kernel_rfl
theorem Zng:tyOk Tryz.prog 219=true:=by kernel_rfl
theorem Zfe:Qb8 Tryz.prog 219=true:=by kernel_rfl
theorem Qun:(Tryz.prog.info? 219).isSome=true:=by kernel_rfl
theorem Q6s:Qaz Tryz.prog 219=some (4,48):=by kernel_rfl
theorem Qzj:Tryz.prog.cellsOf 219=4:=by kernel_rfl
theorem Q6t:Qa5 Tryz.prog 219=some (PV.agg [PV.bool Bool.false,PV.str {data:={toList:=[]}},PV.bool Bool.false,PV.str {data:={toList:=[]}}]):=by kernel_rfl
theorem Qzk:buildable Tryz.prog 219=true:=by kernel_rfl
theorem Zff:Qa0 Tryz.prog 219 0=some (0,71,2):=by kernel_rfl
theorem Zfg:Qae Tryz.prog 219 0=some (0,2):=by kernel_rfl
theorem Zfh:Qa0 Tryz.prog 219 1=some (2,71,2):=by kernel_rfl
theorem Zfi:Qae Tryz.prog 219 1=some (2,2):=by kernel_rfl
theorem Zfj:Qc2 Tryz.prog 219=some [0,2,0,2]:=by kernel_rfl
theorem Znh:tyOk Tryz.prog 223=true:=by kernel_rfl
theorem Zfk:Qb8 Tryz.prog 223=false:=by kernel_rfl
theorem Qup:(Tryz.prog.info? 223).isSome=true:=by kernel_rfl
theorem Q6u:Qaz Tryz.prog 223=some (1,24):=by kernel_rfl
theorem Qzl:Tryz.prog.cellsOf 223=1:=by kernel_rfl
theorem Q6v:Qa5 Tryz.prog 223=some PV.nilS:=by kernel_rfl
theorem Q6w:Qb2 Tryz.prog 223=some 173:=by kernel_rfl
theorem Qhi:Tryz.prog.underlying 223=some (.slice 173):=by kernel_rfl
theorem Q6x (es:List PV):Qbq Tryz.prog 223 (.slc es)=some (.int .i64 es.length):=by simp only [Qbq,Qhi]
theorem Q6y:Qbq Tryz.prog 223 .nilS=some (.int .i64 0):=by simp only [Qbq,Qhi]
theorem Q6z (b e o n:Nat):Qbq Tryz.prog 223 (.bs b e o n)=some (.int .i64 n):=by simp only [Qbq,Qhi]
theorem Zni:tyOk Tryz.prog 238=true:=by kernel_rfl
theorem Zfl:Qb8 Tryz.prog 238=true:=by kernel_rfl
theorem Quq:(Tryz.prog.info? 238).isSome=true:=by kernel_rfl
theorem Q60:Qaz Tryz.prog 238=some (64,64):=by kernel_rfl
theorem Qzm:Tryz.prog.cellsOf 238=64:=by kernel_rfl
theorem Q61:Qa5 Tryz.prog 238=some (PV.agg [PV.int IntKind.u8 0,PV.int IntKind.u8 0,PV.int IntKind.u8 0,PV.int IntKind.u8 0,PV.int IntKind.u8 0,PV.int IntKind.u8 0,PV.int IntKind.u8 0,PV.int IntKind.u8 0,PV.int IntKind.u8 0,PV.int IntKind.u8 0,PV.int IntKind.u8 0,PV.int IntKind.u8 0,PV.int IntKind.u8 0,PV.int IntKind.u8 0,PV.int IntKind.u8 0,PV.int IntKind.u8 0,PV.int IntKind.u8 0,PV.int IntKind.u8 0,PV.int IntKind.u8 0,PV.int IntKind.u8 0,PV.int IntKind.u8 0,PV.int IntKind.u8 0,PV.int IntKind.u8 0,PV.int IntKind.u8 0,PV.int IntKind.u8 0,PV.int IntKind.u8 0,PV.int IntKind.u8 0,PV.int IntKind.u8 0,PV.int IntKind.u8 0,PV.int IntKind.u8 0,PV.int IntKind.u8 0,PV.int IntKind.u8 0,PV.int IntKind.u8 0,PV.int IntKind.u8 0,PV.int IntKind.u8 0,PV.int IntKind.u8 0,PV.int IntKind.u8 0,PV.int IntKind.u8 0,PV.int IntKind.u8 0,PV.int IntKind.u8 0,PV.int IntKind.u8 0,PV.int IntKind.u8 0,PV.int IntKind.u8 0,PV.int IntKind.u8 0,PV.int IntKind.u8 0,PV.int IntKind.u8 0,PV.int IntKind.u8 0,PV.int IntKind.u8 0,PV.int IntKind.u8 0,PV.int IntKind.u8 0,PV.int IntKind.u8 0,PV.int IntKind.u8 0,PV.int IntKind.u8 0,PV.int IntKind.u8 0,PV.int IntKind.u8 0,PV.int IntKind.u8 0,PV.int IntKind.u8 0,PV.int IntKind.u8 0,PV.int IntKind.u8 0,PV.int IntKind.u8 0,PV.int IntKind.u8 0,PV.int IntKind.u8 0,PV.int IntKind.u8 0,PV.int IntKind.u8 0]):=by kernel_rfl
theorem Zfm:Qgk Tryz.prog 238=some (64,5):=by kernel_rfl
theorem Qzn:buildable Tryz.prog 238=true:=by kernel_rfl
theorem Zfn:Qae Tryz.prog 238 0=some (0,1):=by kernel_rfl
theorem Zfo:Qae Tryz.prog 238 1=some (1,1):=by kernel_rfl
theorem Zfp:Qae Tryz.prog 238 2=some (2,1):=by kernel_rfl
theorem Zfq:Qae Tryz.prog 238 3=some (3,1):=by kernel_rfl
theorem Zfr:Qae Tryz.prog 238 4=some (4,1):=by kernel_rfl
theorem Zfs:Qae Tryz.prog 238 5=some (5,1):=by kernel_rfl
theorem Zft:Qae Tryz.prog 238 6=some (6,1):=by kernel_rfl
theorem Zfu:Qae Tryz.prog 238 7=some (7,1):=by kernel_rfl
theorem Zfv:Qae Tryz.prog 238 8=some (8,1):=by kernel_rfl
theorem Zfw:Qae Tryz.prog 238 9=some (9,1):=by kernel_rfl
theorem Q62:Qae Tryz.prog 238 10=some (10,1):=by kernel_rfl
theorem Q63:Qae Tryz.prog 238 11=some (11,1):=by kernel_rfl
theorem Q64:Qae Tryz.prog 238 12=some (12,1):=by kernel_rfl
theorem Q65:Qae Tryz.prog 238 13=some (13,1):=by kernel_rfl
theorem Q66:Qae Tryz.prog 238 14=some (14,1):=by kernel_rfl
theorem Q67:Qae Tryz.prog 238 15=some (15,1):=by kernel_rfl
theorem Q68:Qae Tryz.prog 238 16=some (16,1):=by kernel_rfl
theorem Q69:Qae Tryz.prog 238 17=some (17,1):=by kernel_rfl
theorem Q7a:Qae Tryz.prog 238 18=some (18,1):=by kernel_rfl
theorem Q7b:Qae Tryz.prog 238 19=some (19,1):=by kernel_rfl
theorem Znj:tyOk Tryz.prog 274=true:=by kernel_rfl
theorem Zfx:Qb8 Tryz.prog 274=false:=by kernel_rfl
theorem Qur:(Tryz.prog.info? 274).isSome=true:=by kernel_rfl
theorem Q7c:Qaz Tryz.prog 274=some (1,16):=by kernel_rfl
theorem Qzo:Tryz.prog.cellsOf 274=1:=by kernel_rfl
theorem Q7d:Qa5 Tryz.prog 274=some PV.nilI:=by kernel_rfl
attribute [go_sem] Zsv Zp0 Q3e Zj4 Zay Zj5 Zp1 Zsw Zp2 Q3f Zj6 Zaz Zj7 Zj8 Zsx Zp3
attribute [go_sem] Q3g Zj9 Za0 Zka Zp4 Zsy Zp5 Q3h Zkb Za1 Zkc Zhy Zkd Zp6 Zke Qyd
attribute [go_sem] Za2 Q3i Za3 Za4 Qiv Za5 Za6 Za7 Zp7 Zkf Qye Za8 Q3j Za9 Q3k Zkg
attribute [go_sem] Zkh Zki Zkj Zkk Zkl Zkm Zp8 Zkn Qyf Zba Q3l Zbb Zbc Qiw Zbd Zbe
attribute [go_sem] Zbf Zp9 Zko Qyg Zbg Q3m Zbh Zkp Zqa Zkq Qyh Zbi Q3n Zbj Q3o Zkr
attribute [go_sem] Zks Zkt Zku Zkv Zkw Zkx Zky Zkz Zk0 Zk1 Zqb Zk2 Qyi Zbk Q3p Zbl
attribute [go_sem] Zbm Qix Zbn Zbo Zbp Zqc Zk3 Qyj Zbq Q3q Zbr Zbs Qiy Zbt Zbu Zbv
attribute [go_sem] Zqd Zk4 Qyk Zbw Q3r Zbx Q3s Zk5 Zk6 Zk7 Zk8 Zk9 Zla Zlb Zlc Zld
attribute [go_sem] Zle Zlf Zlg Zqe Zlh Qyl Zby Q3t Zbz Q3u Zli Zlj Zlk Zll Zlm Zln
attribute [go_sem] Zlo Zlp Zlq Zlr Zls Zqf Zlt Qym Zb0 Q3v Zb1 Q3w Zlu Zlv Zlw Zlx
attribute [go_sem] Zly Zqg Zlz Qyn Zb2 Q3x Zb3 Q3y Zl0 Zl1 Zl2 Zl3 Zl4 Zl5 Zl6 Zl7
attribute [go_sem] Zl8 Zqh Zl9 Qyo Zb4 Q3z Zb5 Zb6 Qiz Zb7 Zb8 Zb9 Zqi Zma Qyp Zca
attribute [go_sem] Q30 Zcb Q31 Zmb Zmc Zmd Zme Zqj Zmf Qyq Zcc Q32 Zcd Q33 Zmg Zmh
attribute [go_sem] Zmi Zmj Zqk Zmk Qyr Zce Q34 Zcf Zml Q35 Zmm Zmn Zmo Zmp Zmq Zmr
attribute [go_sem] Zms Zmt Zmu Zmv Zcg Zch Zci Zcj Zck Zcl Zcm Zcn Zco Zcp Zql Zmw
attribute [go_sem] Qys Zcq Q36 Zcr Zqm Zmx Qyt Zcs Q37 Zct Zqn Zmy Qyu Zcu Q38 Zcv
attribute [go_sem] Zmz Zqo Zm0 Qyv Zcw Q39 Zcx Zm1 Zm2 Zcy Qt9 Q4a Qyw Q4b Zcz Qyx
attribute [go_sem] Zc0 Zc1 Zc2 Zc3 Zc4 Zc5 Zc6 Zc7 Zc8 Zc9 Q4c Q4d Q4e Q4f Q4g Q4h
attribute [go_sem] Q4i Q4j Q4k Q4l Zm3 Zda Qua Q4m Qyy Q4n Qyz Zdb Zdc Zdd Zde Zm4
attribute [go_sem] Zdf Qub Q4o Qy0 Q4p Q4q Qhf Q4r Q4s Q4t
attribute [go_sem] Zm5 Zdg Quc Q4u Qy1 Q4v Q4w Qhg
attribute [go_sem] Q4x Q4y Q4z Zm6 Zdh Qud Q40 Qy2 Q41 Qy3 Zdi Zdj Zdk Zdl Zm7 Zdm
attribute [go_sem] Que Q42 Qy4 Q43 Zdn Zm8 Zdo Quf Q44 Qy5 Q45 Zdp Qy6 Zdq Zdr Zds
attribute [go_sem] Zdt Zdu Zdv Zdw Zdx Zdy Zdz Q46 Q47 Q48 Q49 Q5a Q5b Q5c Q5d Q5e
attribute [go_sem] Q5f Zm9 Zd0 Qug Q5g Qy7 Q5h Qy8 Zd1 Zd2 Zd3 Zd4 Zd5 Zna Zd6 Quh
attribute [go_sem] Q5i Qy9 Q5j Qza Zd7 Zd8 Zd9 Zea Znb Zeb Qui Q5k Qzb Q5l Zec Qzc
attribute [go_sem] Zed Zee Zef Zeg Zeh Zei Zej Zek Zel Zem Q5m Q5n Q5o Q5p Q5q Q5r
attribute [go_sem] Q5s Q5t Q5u Q5v Znc Zen Quj Q5w Qzd Q5x Q5y Qhh Q5z Q50 Q51
attribute [go_sem] Znd
attribute [go_sem] Zeo Quk Q52 Qze Q53 Zep Zne Zeq Qul Q54 Qzf Q55 Zer Qzg Zes Zet
attribute [go_sem] Zeu Zev Zew Zex Zey Zez Ze0 Ze1 Q56 Q57 Q58 Q59 Q6a Q6b Q6c Q6d
attribute [go_sem] Q6e Q6f Znf Ze2 Qum Q6g Qzh Q6h Ze3 Qzi Ze4 Ze5 Ze6 Ze7 Ze8 Ze9
attribute [go_sem] Zfa Zfb Zfc Zfd Q6i Q6j Q6k Q6l Q6m Q6n Q6o Q6p Q6q Q6r Zng Zfe
attribute [go_sem] Qun Q6s Qzj Q6t Qzk Zff Zfg Zfh Zfi Zfj Znh Zfk Qup Q6u Qzl Q6v
attribute [go_sem] Q6w Qhi Q6x Q6y Q6z
attribute [go_sem] Zni Zfl Quq Q60 Qzm Q61 Zfm Qzn Zfn Zfo Zfp
attribute [go_sem] Zfq Zfr Zfs Zft Zfu Zfv Zfw Q62 Q63 Q64 Q65 Q66 Q67 Q68 Q69 Q7a
attribute [go_sem] Q7b
attribute [go_sem] Znj Zfx Qur Q7c Qzo Q7d
end Go.Proofs.YtciddhkfbgkejaaGreatDoor

namespace Go.Dg
def digs (B n:Nat):List Nat:=if h:n=0∨B<2 then []else n%B::digs B (n/B)
termination_by n
decreasing_by
 simp only [not_or,Nat.not_lt]at h
 exact Nat.div_lt_self (Nat.pos_of_ne_zero h.1) h.2
def val (B:Nat):List Nat→Nat
 | []=>0
 |d::l=>d+B*val B l
section
variable {B:Nat}
theorem Qay:digs B 0=[]:=by unfold digs;simp
theorem Qfe (hB:2≤B) {n:Nat} (hn:n≠0):digs B n=n%B::digs B (n/B):=by
 conv=>lhs;unfold digs
 rw [dif_neg]
 simp only [not_or,Nat.not_lt]
 exact⟨hn,hB⟩
theorem Qpf (hB:2≤B) (n:Nat):val B (digs B n)=n:=by
 induction n using Nat.strongRecOn with
 |_ n ih=>
  by_cases hn:n=0
  ·subst hn;rw [Qay];rfl
  ·rw [Qfe hB hn]
   simp only [val]
   rw [ih _ (Nat.div_lt_self (Nat.pos_of_ne_zero hn) hB)]
   exact Nat.mod_add_div n B
theorem Qpg (hB:2≤B) (n k:Nat):(digs B n)[k]? =if n/B^k=0 then none else some (n/B^k%B):=by
 induction k generalizing n with
 |zero=>
  by_cases hn:n=0
  ·subst hn;simp [Qay]
  ·rw [Qfe hB hn];simp [hn]
 |succ k ih=>
  by_cases hn:n=0
  ·subst hn;simp [Qay]
  ·rw [Qfe hB hn,List.getElem?_cons_succ,ih]
   have:n/B/B^k=n/B^(k+1):=by rw [Nat.div_div_eq_div_mul,Nat.pow_succ,Nat.mul_comm]
   rw [this]
theorem Qce (hB:2≤B) (n k:Nat):k<(digs B n).length↔n/B^k≠0:=by
 have:=Qpg hB n k
 constructor
 ·intro h hz
  rw [if_pos hz,List.getElem?_eq_none_iff]at this
  omega
 ·intro h
  rw [if_neg h]at this
  exact(List.getElem?_eq_some_iff.1 this).1
theorem Qal (hB:2≤B) (n k:Nat):(digs B n).length≤k↔n<B^k:=by
 have h:=Qce hB n k
 have hp:0<B^k:=Nat.pow_pos (by omega)
 rw [←Nat.not_lt,h,Decidable.not_not,Nat.div_eq_zero_iff]
 omega
theorem Qav (hB:2≤B) (n:Nat):n<B^(digs B n).length:=(Qal hB n _).1 (Nat.le_refl _)
theorem Qao (hB:2≤B) {n k:Nat} (h:k<(digs B n).length):(digs B n)[k]? =some (n/B^k%B):=by
 rw [Qpg hB,if_neg ((Qce hB n k).1 h)]
theorem Ql1 (hB:2≤B) {n d:Nat} (h:d∈digs B n):d<B:=by
 obtain⟨k,hk⟩:=List.mem_iff_getElem?.1 h
 rw [Qpg hB]at hk
 split at hk
 ·cases hk
 ·cases hk;exact Nat.mod_lt _ (by omega)
theorem Qba (hB:2≤B) {n k:Nat} (h:(digs B n).length≤k):n/B^k=0:=by
 have:=(Qal hB n k).1 h
 exact Nat.div_eq_of_lt this
theorem Qbj (hB:2≤B) {n:Nat}:digs B n=[]↔n=0:=by
 constructor
 ·intro h;have:=Qpf hB n;rw [h]at this;exact this.symm
 ·rintro rfl;exact Qay
def lows (B n i:Nat):List Nat:=(List.range i).map fun k=>n/B^k%B
theorem Qai (n i:Nat):(lows B n i).length=i:=by simp [lows]
theorem Qdf (n i:Nat):lows B n (i+1)=lows B n i++[n/B^i%B]:=by simp [lows,List.range_succ]
theorem Qbv (n i k:Nat) (h:k<i):(lows B n i)[k]? =some (n/B^k%B):=by simp [lows,h]
theorem Qrg (n i:Nat):lows B n (i+1)=n%B::lows B (n/B) i:=by
 simp only [lows,List.range_succ_eq_map,List.map_cons,Nat.pow_zero,Nat.div_one,List.map_map]
 congr 1
 apply List.map_congr_left
 intro k _
 simp only [Function.comp,Nat.succ_eq_add_one]
 rw [Nat.div_div_eq_div_mul,Nat.pow_succ,Nat.mul_comm]
theorem Q9k (hB:0<B) (n i:Nat):val B (lows B n i)=n%B^i:=by
 induction i generalizing n with
 |zero=>simp [lows,val,Nat.mod_one]
 |succ i ih=>
  rw [Qrg]
  simp only [val]
  rw [ih,Nat.pow_succ,Nat.mul_comm (B^i) B,Nat.mod_mul]
theorem Qgp (hB:2≤B) (n:Nat):lows B n (digs B n).length=digs B n:=by
 apply List.ext_getElem?
 intro k
 by_cases hk:k<(digs B n).length
 ·rw [Qbv _ _ _ hk,Qao hB hk]
 ·rw [List.getElem?_eq_none (by rw [Qai];omega),List.getElem?_eq_none (by omega)]
def Qdj (l:List Nat):List Nat:=(l.reverse.dropWhile (· ==0)).reverse
theorem Qcw (l:List Nat):Qdj (l++[0])=Qdj l:=by simp [Qdj]
theorem Qff (l:List Nat) {d:Nat} (h:d≠0):Qdj (l++[d])=l++[d]:=by simp [Qdj,h]
theorem Q1i:Qdj []=[]:=rfl
theorem Qn8 (l m:List Nat):val B (l++m)=val B l+B^l.length*val B m:=by
 induction l with
 |nil=>simp [val]
 |cons d l ih=>
  simp only [List.cons_append,val,ih,List.length_cons,Nat.pow_succ]
  rw [Nat.mul_add,Nat.add_assoc,←Nat.mul_assoc,Nat.mul_comm B (B^l.length)]
theorem Zo2 (hB:0<B) {l:List Nat} (h: ∀d∈l,d<B):val B l<B^l.length:=by
 induction l with
 |nil=>simp [val]
 |cons d l ih=>
  have h1:=ih fun x hx=>h x (by simp [hx])
  have h2:=h d (by simp)
  simp only [val,List.length_cons,Nat.pow_succ]
  have:B*val B l+B≤B*B^l.length:=by rw [←Nat.mul_succ];exact Nat.mul_le_mul_left _ h1
  rw [Nat.mul_comm (B^l.length)]
  omega
theorem Q9l (hB:2≤B) {l:List Nat} (h: ∀d∈l,d<B):lows B (val B l) l.length=l:=by
 induction l with
 |nil=>rfl
 |cons d l ih=>
  have h2:=h d (by simp)
  rw [List.length_cons,Qrg]
  simp only [val]
  rw [Nat.add_mul_mod_self_left,Nat.mod_eq_of_lt h2,Nat.add_mul_div_left _ _ (by omega),Nat.div_eq_of_lt h2,Nat.zero_add,ih fun x hx=>h x (by simp [hx])]
theorem Qph (hB:2≤B) (l:List Nat) (h: ∀d∈l,d<B):Qdj l=digs B (val B l):=by
 have key: ∀n,∀l:List Nat,l.length=n→(∀d∈l,d<B)→Qdj l=digs B (val B l):=by
  intro n
  induction n with
  |zero=>intro l hl _;rw [List.length_eq_zero_iff.1 hl];simp [Q1i,val,Qay]
  |succ n ih=>
   intro l hl h
   have hne:l≠ []:=by rintro rfl;simp at hl
   have hcut:=List.dropLast_concat_getLast hne
   generalize l.dropLast=m at hcut
   generalize l.getLast hne=d at hcut
   subst hcut
   have hm:m.length=n:=by simpa using hl
   have hmd: ∀x∈m,x<B:=fun x hx=>h x (by simp [hx])
   by_cases hd:d=0
   ·subst hd
    rw [Qcw,ih m hm hmd,Qn8]
    simp [val]
   ·rw [Qff m hd]
    have hlen:(digs B (val B (m++[d]))).length=(m++[d]).length:=by
     apply Nat.le_antisymm
     ·exact(Qal hB _ _).2 (Zo2 (by omega) h)
     ·have:(m++[d]).length=m.length+1:=by simp
      rw [this]
      apply (Qce hB _ _).2
      rw [Qn8]
      simp only [val,Nat.mul_zero,Nat.add_zero]
      rw [Nat.add_mul_div_left _ _ (Nat.pow_pos (by omega))]
      exact fun e=>hd (Nat.eq_zero_of_add_eq_zero_left e)
    have:=Qgp hB (val B (m++[d]))
    rw [hlen,Q9l hB h]at this
    exact this
 exact key l.length l rfl h
theorem Qbo (hB:2≤B) (n i:Nat):Qdj (lows B n i)=digs B (n%B^i):=by
 rw [Qph hB,Q9k (by omega)]
 intro d hd
 simp only [lows,List.mem_map]at hd
 obtain⟨k,_,rfl⟩:=hd
 exact Nat.mod_lt _ (by omega)
end
end Go.Dg

namespace Go.Proofs.YtciddhkfbgkejaaGreatDoor
open Go.Vl Go.RowKit Go.Dg
def di (l:List Nat):PV:= .slc (l.map fun d:Nat=>PV.int .i64 (d:Int))
theorem Qep (l:List Nat) (k:Nat):(l.map fun d:Nat=>PV.int .i64 (d:Int))[k]? =l[k]?.map fun d:Nat=>PV.int .i64 (d:Int):=List.getElem?_map
theorem Zo6 (l:List Nat):((l.map fun d:Nat=>PV.int .i64 (d:Int)).all fun x=>x.cells.length==1)=true:=by rw [List.all_map,List.all_eq_true];intro d _;rfl
theorem wrapn {n:Nat} (h:n<9223372036854775808):IntKind.i64.wrap (n:Int)=n:=Qah (by omega) (by omega)
theorem Qip {n:Nat} (h:n<9223372036854775808):IntKind.i64.wrap (((n+1:Nat):Int)-1)=(n:Int):=by
 rw [Qah (by omega) (by omega)];omega
theorem Qd0:maxLen<9223372036854775808:=by simp [maxLen]
theorem Qju (l:List Nat) (hl:l.length≤maxLen):Qad Tryz.prog 136 [di l] (di (Qdj l)):=by
 have hm:=Qd0
 refine Qac (tb:=[]) 21 [.tmp 2] [0,2,14] mixed Tryz.func136 rfl (by kernel_rfl) (by kernel_rfl) (by kernel_rfl) (by kernel_rfl) ?_
 simp -implicitDefEqProofs only [go_sem,Nat.reduceMul,Nat.reduceEqDiff,Nat.reduceLT,Nat.reduceLeDiff,reduceCtorEq,di]
 refine Qar mixed (fun k:{k:Nat // k≤l.length∧Qdj (l.take k)=Qdj l}=>St.of [(0,di (l.take k.1)),(2,.nilS)] []) (fun k=>k.1) ⟨l.length,Nat.le_refl _,by rw [List.take_length]⟩ ?_ ?_
 ·exact Qa9 (by simp [Qaf,lkp,ren1,ren0,di])
 ·rintro⟨k,hk,ht⟩
  have hlen:(l.take k).length=k:=by simp;omega
  cases k with
  |zero=>
   have h1:((0:Int)<((0:Nat):Int))=False:=by simp
   simp -implicitDefEqProofs only [go_sem,Nat.reduceAdd,Nat.reduceMul,Nat.reduceEqDiff,Nat.reduceLT,Nat.reduceLeDiff,reduceCtorEq,di,List.length_map,hlen,h1]
   rw [←ht];rfl
  |succ k=>
   have h1:((0:Int)<((k+1:Nat):Int))=True:=by simp
   have h2:(0≤(k:Int))=True:=by simp
   have hw:=Qip (n:=k) (by omega)
   have hlt:k<l.length:=by omega
   have hget:(l.take (k+1))[k]? =some l[k]:=by simp [hlt]
   have hcut:l.take (k+1)=l.take k++[l[k]]:=by rw [List.take_add_one];simp [hlt]
   cases hd:((l[k]:Int)==0)with
   |true=>
    have hd0:l[k]=0:=by simpa using hd
    have h3:((k:Int)≤((k+1:Nat):Int))=True:=by simp;omega
    simp -implicitDefEqProofs only [go_sem,Nat.reduceAdd,Nat.reduceMul,Nat.reduceEqDiff,Nat.reduceLT,Nat.reduceLeDiff,reduceCtorEq,di,List.length_map,hlen,h1,h2,h3,hw,Int.toNat_natCast,Qep,hget,hd,Zo6]
    refine⟨⟨k,by omega,?_⟩,by simp,?_⟩
    ·rw [←ht,hcut,hd0,Qcw]
    ·refine Qa9 (by simp [Qaf,lkp,ren1,ren0,di];rw [←List.map_take];simp [List.take_take])
   |false=>
    have hd0:l[k]≠0:=by simpa using hd
    simp -implicitDefEqProofs only [go_sem,Nat.reduceAdd,Nat.reduceMul,Nat.reduceEqDiff,Nat.reduceLT,Nat.reduceLeDiff,reduceCtorEq,di,List.length_map,hlen,h1,h2,hw,Int.toNat_natCast,Qep,hget,hd]
    rw [←ht,hcut,Qff _ hd0]
end Go.Proofs.YtciddhkfbgkejaaGreatDoor

namespace Go.Dg
section
variable {B:Nat}
def carry (B a b i:Nat):Nat:=(a%B^i+b%B^i)/B^i
theorem Qjo (a b:Nat):carry B a b 0=0:=by simp [carry,Nat.mod_one]
theorem Qpn (hB:0<B) (a b i:Nat):carry B a b i≤1:=by
 have hp:0<B^i:=Nat.pow_pos hB
 have h1:=Nat.mod_lt a hp
 have h2:=Nat.mod_lt b hp
 unfold carry
 rw [Nat.div_le_iff_le_mul hp]
 omega
theorem Qpo (hB:0<B) (a b i:Nat):(a/B^i%B+b/B^i%B+carry B a b i)%B=(a+b)/B^i%B∧(a/B^i%B+b/B^i%B+carry B a b i)/B=carry B a b (i+1):=by
 have hp:0<B^i:=Nat.pow_pos hB
 unfold carry
 generalize hP:B^i=P at*
 have e1:(a+b)/P=a/P+b/P+(a%P+b%P)/P:=by
  conv=>lhs;rw [←Nat.div_add_mod a P,←Nat.div_add_mod b P]
  have:P*(a/P)+a%P+(P*(b/P)+b%P)=(a%P+b%P)+P*(a/P+b/P):=by rw [Nat.mul_add];omega
  rw [this,Nat.add_mul_div_left _ _ hp]
  omega
 constructor
 ·rw [e1]
  conv=>rhs;rw [Nat.add_mod,Nat.add_mod (a/P)]
  conv=>lhs;rw [Nat.add_mod,Nat.add_mod (a/P%B)]
  simp
 ·have hP1:B^(i+1)=P*B:=by rw [Nat.pow_succ,hP]
  rw [hP1,Nat.mod_mul,Nat.mod_mul]
  have:a%P+P*(a/P%B)+(b%P+P*(b/P%B))=(a%P+b%P)+P*(a/P%B+b/P%B):=by rw [Nat.mul_add];omega
  rw [this,←Nat.div_div_eq_div_mul,Nat.add_mul_div_left _ _ hp]
  congr 1
  omega
theorem Q1m (hB:0<B) (a b i:Nat):(carry B a b i+a/B^i%B+b/B^i%B)%B=(a+b)/B^i%B∧(carry B a b i+a/B^i%B+b/B^i%B)/B=carry B a b (i+1):=by
 have h:=Qpo hB a b i
 have e:carry B a b i+a/B^i%B+b/B^i%B=a/B^i%B+b/B^i%B+carry B a b i:=by omega
 rw [e];exact h
theorem Ql6 (hB:2≤B) {n i:Nat} (h1:n<B^i) (h2: ∀j,j<i→n/B^j≠0):lows B n i=digs B n:=by
 have hl:(digs B n).length=i:=by
  apply Nat.le_antisymm ((Qal hB n i).2 h1)
  rcases Nat.eq_zero_or_pos i with rfl|hi
  ·exact Nat.zero_le _
  ·have:=(Qce hB n (i-1)).2 (h2 (i-1) (by omega))
   omega
 rw [←hl,Qgp hB]
theorem Q9n (hB:2≤B) {a b i:Nat} (ha:(digs B a).length≤i) (hb:(digs B b).length≤i) (hc:carry B a b i=0):a+b<B^i:=by
 have h1:=(Qal hB a i).1 ha
 have h2:=(Qal hB b i).1 hb
 unfold carry at hc
 rw [Nat.mod_eq_of_lt h1,Nat.mod_eq_of_lt h2,Nat.div_eq_zero_iff]at hc
 have:0<B^i:=Nat.pow_pos (by omega)
 omega
theorem Q9o (hB:2≤B) {a b i:Nat} (h:i<(digs B a).length∨i<(digs B b).length∨0<carry B a b i):(a+b)/B^i≠0:=by
 have hp:0<B^i:=Nat.pow_pos (by omega)
 have hle:B^i≤a+b:=by
  rcases h with h|h|h
  ·have:=(Qce hB a i).1 h
   have:=Nat.div_eq_zero_iff (a:=a) (b:=B^i)
   omega
  ·have:=(Qce hB b i).1 h
   have:=Nat.div_eq_zero_iff (a:=b) (b:=B^i)
   omega
  ·unfold carry at h
   have h1:=Nat.mod_le a (B^i)
   have h2:=Nat.mod_le b (B^i)
   have h3:=Nat.div_eq_zero_iff (a:=a%B^i+b%B^i) (b:=B^i)
   omega
 have:=Nat.div_eq_zero_iff (a:=a+b) (b:=B^i)
 omega
end
end Go.Dg

namespace Go.Proofs.YtciddhkfbgkejaaGreatDoor
open Go.Vl Go.RowKit Go.Dg
abbrev E9:Nat:=1000000000
theorem E9_2:2≤E9:=by decide
abbrev fI:Nat→PV:=fun d:Nat=>PV.int .i64 (d:Int)
theorem Qki (l:List Nat):(((l.map fun d:Nat=>PV.int .i64 (d:Int)).flatMap PV.cells).all PV.okCell)=true:=by
 rw [List.all_eq_true]
 intro x hx
 obtain⟨y,hy,hx⟩:=List.mem_flatMap.1 hx
 obtain⟨d,_,rfl⟩:=List.mem_map.1 hy
 simp only [Zri,List.mem_singleton]at hx
 subst hx;rfl
theorem Qpr (n:Nat):Int.tmod (n:Int) 1000000000=((n%1000000000:Nat):Int):=by
 rw [Int.tmod_eq_emod_of_nonneg (by omega)];rfl
theorem Qps (n:Nat):Int.tdiv (n:Int) 1000000000=((n/1000000000:Nat):Int):=by
 rw [Int.tdiv_eq_ediv_of_nonneg (by omega)];rfl
theorem Qcm {a b:Nat} (h:a+b<9223372036854775808):IntKind.i64.wrap ((a:Int)+(b:Int))=((a+b:Nat):Int):=by
 rw [Qah (by omega) (by omega)];omega
theorem Qaj {a:Nat} (h:a+1<9223372036854775808):IntKind.i64.wrap ((a:Int)+1)=((a+1:Nat):Int):=by
 rw [Qah (by omega) (by omega)];omega
theorem Zjc (a b:Nat) (hl:(digs E9 (a+b)).length≤1000000000):Qad Tryz.prog 137 [di (digs E9 a),di (digs E9 b)] (di (digs E9 (a+b))):=by
 have hm:=Qd0
 refine Qac (tb:=[]) 52 [.tmp 4] [0,1,4,5,6,7,21,27,37] mixed Tryz.func137 rfl (by kernel_rfl) (by kernel_rfl) (by kernel_rfl) (by kernel_rfl) ?_
 simp -implicitDefEqProofs only [go_sem,Nat.reduceAdd,Nat.reduceMul,Nat.reduceEqDiff,Nat.reduceLT,Nat.reduceLeDiff,reduceCtorEq,di]
 refine Qar mixed (fun i:{i:Nat // i≤(digs E9 (a+b)).length∧ ∀j,j<i→(a+b)/E9^j≠0}=>St.of [(0,di (digs E9 a)),(1,di (digs E9 b)),(4,.nilS),(5,.bs 7 1 0 i.1),(6,.int .i64 (carry E9 a b i.1:Int)),(7,.int .i64 (i.1:Int))]
  [(7,{els:=(lows E9 (a+b) i.1).map fI,esz:=1,ety:=3,fro:=0,live:=true,arr:=true})]) (fun i=>(digs E9 (a+b)).length+1-i.1) ⟨0,Nat.zero_le _,by omega⟩ ?_ ?_
 ·refine Qgc 5 7 1 3 rfl rfl rfl (by decide) [(7,7)] rfl ?_ ?_
  ·simp [Qaf,lkp,ren1,ren0,di,Qjo]
  ·simp [Qam,lkp,Box.renames,lows]
 ·rintro⟨i,hi,hmore⟩
  have h0:(0≤(i:Int))=True:=by simp
  have hll:=Qai (B:=E9) (a+b) i
  have hcle:=Qpn (B:=E9) (by decide) a b i
  obtain⟨hs1,hs2⟩:(carry E9 a b i+a/E9^i%E9+b/E9^i%E9)%1000000000=(a+b)/E9^i%E9∧(carry E9 a b i+a/E9^i%E9+b/E9^i%E9)/1000000000=carry E9 a b (i+1):=Q1m (B:=E9) (by decide) a b i
  have hda:a/E9^i%E9<E9:=Nat.mod_lt _ (by decide)
  have hdb:b/E9^i%E9<E9:=Nat.mod_lt _ (by decide)
  have hb1:((i+1)*8≤140737488355328)=True:=by simp;omega
  have hb2:(i+1≤maxLen)=True:=by simp [maxLen];omega
  have hwi:=Qaj (a:=i) (by omega)
  have next: ∀s,((i<(digs E9 a).length)∨(i<(digs E9 b).length)∨0<carry E9 a b i)→Le s (St.of [(0,di (digs E9 a)),(1,di (digs E9 b)),(4,.nilS),(5,.bs 7 1 0 (i+1)),(6,.int .i64 (carry E9 a b (i+1):Int)),(7,.int .i64 ((i+1:Nat):Int))]
    [(7,{els:=(lows E9 (a+b) (i+1)).map fI,esz:=1,ety:=3,fro:=0,live:=true,arr:=true})])→
    ∃y:{i:Nat // i≤(digs E9 (a+b)).length∧ ∀j,j<i→(a+b)/E9^j≠0},(digs E9 (a+b)).length+1-y.1<(digs E9 (a+b)).length+1-i∧
     Le s (St.of [(0,di (digs E9 a)),(1,di (digs E9 b)),(4,.nilS),(5,.bs 7 1 0 y.1),(6,.int .i64 (carry E9 a b y.1:Int)),(7,.int .i64 (y.1:Int))]
      [(7,{els:=(lows E9 (a+b) y.1).map fI,esz:=1,ety:=3,fro:=0,live:=true,arr:=true})]):=by
   intro s hc hle
   have hne:=Q9o E9_2 hc
   have hlt:=(Qce E9_2 _ _).2 hne
   exact⟨⟨i+1,hlt,fun j hj=>(Nat.lt_succ_iff_lt_or_eq.1 hj).elim (hmore j) fun h=>h▸hne⟩,by simp only;omega,hle⟩
  by_cases hA:i<(digs E9 a).length
  ·have hA':((i:Int)<((digs E9 a).length:Int))=True:=by simp;omega
   have hga:=Qao E9_2 hA
   by_cases hB:i<(digs E9 b).length
   ·have hB':((i:Int)<((digs E9 b).length:Int))=True:=by simp;omega
    have hgb:=Qao E9_2 hB
    have w1:=Qcm (a:=carry E9 a b i) (b:=a/E9^i%E9) (by simp only [E9]at*;omega)
    have w2:=Qcm (a:=carry E9 a b i+a/E9^i%E9) (b:=b/E9^i%E9) (by simp only [E9]at*;omega)
    have w3:=wrapn (n:=(carry E9 a b i+a/E9^i%E9+b/E9^i%E9)/1000000000) (by simp only [E9]at*;omega)
    simp -implicitDefEqProofs only [go_sem,Nat.reduceAdd,Nat.reduceMul,Nat.reduceEqDiff,Nat.reduceLT,Nat.reduceLeDiff,reduceIte,reduceCtorEq,Int.reduceEq,Nat.reduceBneDiff,di,List.length_map,hA',hB',h0,Qep,hga,hgb,w1,w2,w3,Qpr,Qps,hll,Qki,hb1,hb2,hwi]
    refine next _ (.inl hA) (Qak (θ:=[(7,1004)]) rfl ?_ ?_)
    ·simp [Qaf,lkp,ren1,ren0,di,hs2]
    ·simp [Qam,lkp,Box.renames,Qdf,hs1]
   ·have hB':((i:Int)<((digs E9 b).length:Int))=False:=by simp;omega
    have hb0:b/E9^i%E9=0:=by rw [Qba E9_2 (Nat.le_of_not_lt hB),Nat.zero_mod]
    rw [hb0,Nat.add_zero]at hs1 hs2
    have w1:=Qcm (a:=carry E9 a b i) (b:=a/E9^i%E9) (by simp only [E9]at*;omega)
    have w3:=wrapn (n:=(carry E9 a b i+a/E9^i%E9)/1000000000) (by simp only [E9]at*;omega)
    simp -implicitDefEqProofs only [go_sem,Nat.reduceAdd,Nat.reduceMul,Nat.reduceEqDiff,Nat.reduceLT,Nat.reduceLeDiff,reduceIte,reduceCtorEq,Int.reduceEq,Nat.reduceBneDiff,di,List.length_map,hA',hB',h0,Qep,hga,w1,w3,Qpr,Qps,hll,Qki,hb1,hb2,hwi]
    refine next _ (.inl hA) (Qak (θ:=[(7,1004)]) rfl ?_ ?_)
    ·simp [Qaf,lkp,ren1,ren0,di,hs2]
    ·simp [Qam,lkp,Box.renames,Qdf,hs1]
  ·have hA':((i:Int)<((digs E9 a).length:Int))=False:=by simp;omega
   have ha0:a/E9^i%E9=0:=by rw [Qba E9_2 (Nat.le_of_not_lt hA),Nat.zero_mod]
   rw [ha0,Nat.add_zero]at hs1 hs2
   by_cases hB:i<(digs E9 b).length
   ·have hB':((i:Int)<((digs E9 b).length:Int))=True:=by simp;omega
    have hgb:=Qao E9_2 hB
    have w2:=Qcm (a:=carry E9 a b i) (b:=b/E9^i%E9) (by simp only [E9]at*;omega)
    have w3:=wrapn (n:=(carry E9 a b i+b/E9^i%E9)/1000000000) (by simp only [E9]at*;omega)
    simp -implicitDefEqProofs only [go_sem,Nat.reduceAdd,Nat.reduceMul,Nat.reduceEqDiff,Nat.reduceLT,Nat.reduceLeDiff,reduceIte,reduceCtorEq,Int.reduceEq,Nat.reduceBneDiff,di,List.length_map,hA',hB',h0,Qep,hgb,w2,w3,Qpr,Qps,hll,Qki,hb1,hb2,hwi]
    refine next _ (.inr (.inl hB)) (Qak (θ:=[(7,1004)]) rfl ?_ ?_)
    ·simp [Qaf,lkp,ren1,ren0,di,hs2]
    ·simp [Qam,lkp,Box.renames,Qdf,hs1]
   ·have hB':((i:Int)<((digs E9 b).length:Int))=False:=by simp;omega
    have hb0:b/E9^i%E9=0:=by rw [Qba E9_2 (Nat.le_of_not_lt hB),Nat.zero_mod]
    rw [hb0,Nat.add_zero]at hs1 hs2
    by_cases hC:0<carry E9 a b i
    ·have hC':((0:Int)<(carry E9 a b i:Int))=True:=by simp;omega
     have w3:=wrapn (n:=carry E9 a b i/1000000000) (by simp only [E9]at*;omega)
     simp -implicitDefEqProofs only [go_sem,Nat.reduceAdd,Nat.reduceMul,Nat.reduceEqDiff,Nat.reduceLT,Nat.reduceLeDiff,reduceIte,reduceCtorEq,Int.reduceEq,Nat.reduceBneDiff,di,List.length_map,hA',hB',hC',h0,w3,Qpr,Qps,hll,Qki,hb1,hb2,hwi]
     refine next _ (.inr (.inr hC)) (Qak (θ:=[(7,1004)]) rfl ?_ ?_)
     ·simp [Qaf,lkp,ren1,ren0,di,hs2]
     ·simp [Qam,lkp,Box.renames,Qdf,hs1]
    ·have hC':((0:Int)<(carry E9 a b i:Int))=False:=by simp;omega
     have hlt:=Q9n E9_2 (Nat.le_of_not_lt hA) (Nat.le_of_not_lt hB) (by omega)
     have hd:=Ql6 E9_2 hlt hmore
     have htk:((lows E9 (a+b) i).map fI).take i=(lows E9 (a+b) i).map fI:=List.take_of_length_le (by simp [hll])
     simp -implicitDefEqProofs only [go_sem,Nat.reduceAdd,Nat.reduceMul,Nat.reduceEqDiff,Nat.reduceLT,Nat.reduceLeDiff,reduceIte,reduceCtorEq,di,List.length_map,hA',hB',hC',hll,htk]
     rw [hd]
end Go.Proofs.YtciddhkfbgkejaaGreatDoor

namespace Go.Dg
section
variable {B:Nat}
def cmpN (a b:Nat):Int:=if a<b then -1 else if b<a then 1 else 0
theorem Qpj {a b:Nat} (h:a<b):cmpN a b= -1:=by simp [cmpN,h]
theorem Qtp {a b:Nat} (h:b<a):cmpN a b=1:=by simp [cmpN,h];omega
theorem Q1j (a:Nat):cmpN a a=0:=by simp [cmpN]
theorem Qv1 (hB:2≤B) {a b:Nat} (h:(digs B a).length<(digs B b).length):a<b:=by
 have h1:=Qav hB a
 have h2:=(Qce hB b _).1 h
 have h3:=Nat.div_eq_zero_iff (a:=b) (b:=B^(digs B a).length)
 have:0<B^(digs B a).length:=Nat.pow_pos (by omega)
 omega
theorem Qht (hB:0<B) (a i:Nat):a/B^i=B*(a/B^(i+1))+a/B^i%B:=by
 rw [Nat.pow_succ,←Nat.div_div_eq_div_mul]
 exact(Nat.div_add_mod _ _).symm
theorem Qil (hB:0<B) {a b i:Nat} (h:a/B^(i+1)=b/B^(i+1)) (hd:a/B^i%B<b/B^i%B):a<b:=by
 have h1:=Qht hB a i
 have h2:=Qht hB b i
 rw [h]at h1
 apply Nat.lt_of_not_le
 intro hle
 have:=Nat.div_le_div_right (c:=B^i) hle
 omega
theorem Qoa (hB:0<B) {a b i:Nat} (h:a/B^(i+1)=b/B^(i+1)) (hd:a/B^i%B=b/B^i%B):a/B^i=b/B^i:=by
 rw [Qht hB a i,Qht hB b i,h,hd]
def bor (B a b i:Nat):Nat:=if a%B^i<b%B^i then 1 else 0
theorem Qpk (a b:Nat):bor B a b 0=0:=by simp [bor,Nat.mod_one]
theorem Qob (a b i:Nat):bor B a b i≤1:=by unfold bor;split<;>omega
theorem Q1k (hB:0<B) {a b:Nat} (h:b≤a) (i:Nat):(a-b)/B^i+b/B^i+bor B a b i=a/B^i:=by
 have hp:0<B^i:=Nat.pow_pos hB
 unfold bor
 generalize B^i=P at*
 have ha:=Nat.div_add_mod a P
 have hb:=Nat.div_add_mod b P
 have hm1:=Nat.mod_lt a hp
 have hm2:=Nat.mod_lt b hp
 have hle:b/P≤a/P:=Nat.div_le_div_right h
 generalize a/P=x at*
 generalize b/P=y at*
 generalize a%P=r at*
 generalize b%P=s at*
 obtain⟨z,rfl⟩:=Nat.exists_eq_add_of_le hle
 rw [Nat.mul_add]at ha
 split
 ·rename_i hlt
  have hz:z≠0:=by rintro rfl;rw [Nat.mul_zero]at ha;omega
  obtain⟨z',rfl⟩:=Nat.exists_eq_succ_of_ne_zero hz
  have e:a-b=(P+r-s)+P*z':=by rw [Nat.mul_succ]at ha;omega
  rw [e,Nat.add_mul_div_left _ _ hp,Nat.div_eq_of_lt (by omega)]
  omega
 ·rename_i hlt
  have e:a-b=(r-s)+P*z:=by omega
  rw [e,Nat.add_mul_div_left _ _ hp,Nat.div_eq_of_lt (by omega)]
  omega
theorem Qpl (hB:2≤B) {a b:Nat} (h:b≤a) (i:Nat):
  (a-b)/B^i%B+b/B^i%B+bor B a b i=a/B^i%B+B*bor B a b (i+1):=by
 have hB0:0<B:=by omega
 have h1:=Q1k hB0 h i
 have h2:=Q1k hB0 h (i+1)
 have e1:=Qht hB0 (a-b) i
 have e2:=Qht hB0 b i
 have e3:=Qht hB0 a i
 have hm:=Nat.mul_add B ((a-b)/B^(i+1)+b/B^(i+1)) (bor B a b (i+1))
 have hm2:=Nat.mul_add B ((a-b)/B^(i+1)) (b/B^(i+1))
 rw [h2]at hm
 omega
def mix (B V S n m:Nat):List Nat:=(List.range n).map fun j=>if j<m then V/B^j%B else S/B^j%B
theorem Qbf (V S n m:Nat):(mix B V S n m).length=n:=by simp [mix]
theorem Qcx (V S n m j:Nat) (h:j<n):(mix B V S n m)[j]? =some (if j<m then V/B^j%B else S/B^j%B):=by simp [mix,h]
theorem Ql2 (hB:0<B) {V W m j:Nat} (h:V%B^m=W%B^m) (hj:j<m):V/B^j%B=W/B^j%B:=by
 have key: ∀n,n/B^j%B=(n%B^m)/B^j%B:=by
  intro n
  have e:B^m=B^j*(B*B^(m-j-1)):=by
   rw [←Nat.mul_assoc,←Nat.pow_succ,←Nat.pow_add];congr 1;omega
  rw [e,Nat.mod_mul_right_div_self,Nat.mod_mul_right_mod]
 rw [key V,key W,h]
theorem Qd4 (hB:0<B) {V W S n m d:Nat} (hm:m<n) (h:V%B^m=W%B^m) (hd:W/B^m%B=d):(mix B V S n m).set m d=mix B W S n (m+1):=by
 apply List.ext_getElem?
 intro j
 rw [List.getElem?_set]
 by_cases hj:j<n
 ·rw [Qcx _ _ _ _ _ hj,Qcx _ _ _ _ _ hj,Qbf]
  by_cases e:m=j
  ·subst e;simp [hj,hd]
  ·simp only [e,if_false]
   by_cases hlt:j<m
   ·rw [if_pos hlt,if_pos (by omega),Ql2 hB h hlt]
   ·rw [if_neg hlt,if_neg (by omega)]
 ·rw [List.getElem?_eq_none (by rw [Qbf];omega),List.getElem?_eq_none (by rw [Qbf];omega),Qbf]
  simp;omega
theorem Qem {V S n m:Nat} (hB:0<B) (h:V/B^m=S/B^m):mix B V S n m=lows B V n:=by
 apply List.map_congr_left
 intro j _
 split
 ·rfl
 ·rename_i hj
  obtain⟨k,rfl⟩:=Nat.exists_eq_add_of_le (Nat.le_of_not_lt hj)
  rw [Nat.pow_add,←Nat.div_div_eq_div_mul,←Nat.div_div_eq_div_mul,h]
theorem Qg8 (V S n:Nat):mix B V S n 0=lows B S n:=by simp [mix,lows]
def mulV (B S x i b k:Nat):Nat:=S+x*B^i*(b%B^k)
theorem Ql3 (S x i b:Nat):mulV B S x i b 0=S:=by simp [mulV,Nat.mod_one]
theorem Qrh (S x i b k:Nat):mulV B S x i b (k+1)=mulV B S x i b k+x*(b/B^k%B)*B^(i+k):=by
 unfold mulV
 rw [Nat.pow_succ,Nat.mod_mul,Nat.mul_add,Nat.pow_add]
 have:x*B^i*(B^k*(b/B^k%B))=x*(b/B^k%B)*(B^i*B^k):=by
  simp only [Nat.mul_assoc,Nat.mul_comm,Nat.mul_left_comm]
 rw [this];omega
def mulC (B S x i b k:Nat):Nat:=mulV B S x i b k/B^(i+k)-S/B^(i+k)
theorem Zit (S x i b k:Nat):S≤mulV B S x i b k:=Nat.le_add_right _ _
theorem Qle (S x i b k:Nat):mulC B S x i b k+S/B^(i+k)=mulV B S x i b k/B^(i+k):=by
 have:=Nat.div_le_div_right (c:=B^(i+k)) (Zit (B:=B) S x i b k)
 unfold mulC
 omega
theorem Ql4 (S x i b:Nat):mulC B S x i b 0=0:=by simp [mulC,Ql3]
theorem Qpm (hB:0<B) (S x i b k:Nat):
  (S/B^(i+k)%B+mulC B S x i b k+x*(b/B^k%B))%B=mulV B S x i b (k+1)/B^(i+k)%B∧
  (S/B^(i+k)%B+mulC B S x i b k+x*(b/B^k%B))/B=mulC B S x i b (k+1):=by
 have hp:0<B^(i+k):=Nat.pow_pos hB
 have h1:=Qle (B:=B) S x i b k
 have e1:mulV B S x i b (k+1)/B^(i+k)=(S/B^(i+k)%B+mulC B S x i b k+x*(b/B^k%B))+B*(S/B^(i+k+1)):=by
  rw [Qrh,Nat.add_mul_div_right _ _ hp,←h1]
  have:=Qht hB S (i+k)
  omega
 constructor
 ·rw [e1,Nat.add_mul_mod_self_left]
 ·have h2:=Qle (B:=B) S x i b (k+1)
  have e2:mulV B S x i b (k+1)/B^(i+(k+1))=mulV B S x i b (k+1)/B^(i+k)/B:=by
   rw [Nat.div_div_eq_div_mul,←Nat.pow_succ];rfl
  rw [e1,Nat.add_mul_div_left _ _ hB]at e2
  have e3:S/B^(i+(k+1))=S/B^(i+k+1):=rfl
  omega
theorem Qv2 (S x i b k:Nat):mulV B S x i b k%B^(i+k)=mulV B S x i b (k+1)%B^(i+k):=by
 rw [Qrh,Nat.add_mul_mod_self_right]
theorem Ql5 (a i b k:Nat) (hk:b<B^k):mulV B (a%B^i*b) (a/B^i%B) i b k=a%B^(i+1)*b:=by
 unfold mulV
 rw [Nat.mod_eq_of_lt hk,Nat.pow_succ,Nat.mod_mul,Nat.add_mul]
 congr 1
 rw [Nat.mul_comm (a/B^i%B)]
theorem Q1l (hB:0<B) {S x i b k:Nat} (hx:x<B):mulC B S x i b k<B:=by
 induction k with
 |zero=>rw [Ql4];exact hB
 |succ k ih=>
  rw [←(Qpm hB S x i b k).2,Nat.div_lt_iff_lt_mul hB]
  have h1:S/B^(i+k)%B<B:=Nat.mod_lt _ hB
  have h2:b/B^k%B<B:=Nat.mod_lt _ hB
  have h3:x*(b/B^k%B)≤(B-1)*(B-1):=Nat.mul_le_mul (by omega) (by omega)
  have h4:B*B=(B-1)*(B-1)+2*(B-1)+1:=by
   obtain⟨c,rfl⟩: ∃c,B=c+1:=⟨B-1,by omega⟩
   simp only [Nat.add_sub_cancel,Nat.add_mul,Nat.mul_add]
   omega
  omega
theorem Q9m (hB:0<B) {a i b k:Nat} (hk:b<B^k):mulC B (a%B^i*b) (a/B^i%B) i b (k+1)=0:=by
 unfold mulC
 rw [Ql5 a i b (k+1) (Nat.lt_of_lt_of_le hk (Nat.pow_le_pow_right hB (Nat.le_succ k)))]
 have:a%B^(i+1)*b<B^(i+(k+1)):=by
  have h1:=Nat.mod_lt a (Nat.pow_pos (n:=i+1) hB)
  have e:B^(i+(k+1))=B^(i+1)*B^k:=by rw [←Nat.pow_add];congr 1;omega
  rw [e]
  rcases Nat.eq_zero_or_pos b with rfl|hb
  ·rw [Nat.mul_zero];exact Nat.mul_pos (Nat.pow_pos hB) (Nat.pow_pos hB)
  ·exact Nat.lt_of_lt_of_le (Nat.mul_lt_mul_of_pos_right h1 hb) (Nat.mul_le_mul_left _ (Nat.le_of_lt hk))
 rw [Nat.div_eq_of_lt this,Nat.zero_sub]
end
end Go.Dg
