/-
  HTy, Dg, HA1, Dn, HA2, Dm, HA3, HA4, HA5, UW, HA6, Bx, HA7, HA8, Dt, HA9, Db, HA10, Bw, HW1, HW2 (merged for the claim).
-/
import Derived.Test.YtciddhkfbgkejaaGreatDoorUV
import Derived.Test.YtciddhkfbgkejaaGreatDoorProg
import Derived.Shelf.Spec.BitsCarry
set_option linter.unusedSimpArgs false
set_option linter.unusedVariables false
namespace Go.Proofs.YtciddhkfbgkejaaGreatDoor
open Go.Vl
theorem mixed:Tryz.prog.follows .mixedOrders=true:=by kernel_rfl
theorem Zj9:tyOk Tryz.prog 3=true:=by kernel_rfl
theorem Zhl:Qce Tryz.prog 3=false:=by kernel_rfl
theorem Qyr:(Tryz.prog.info? 3).isSome=true:=by kernel_rfl
theorem Zcf:Qau Tryz.prog 3=some (1,8):=by kernel_rfl
theorem Q4z:Tryz.prog.cellsOf 3=1:=by kernel_rfl
theorem Zcg:Qa2 Tryz.prog 3=some (PV.int IntKind.i64 0):=by kernel_rfl
theorem Zhm:Tryz.prog.underlying 3=some (.int .i64):=by kernel_rfl
theorem Zka:tyOk Tryz.prog 4=true:=by kernel_rfl
theorem Zhn:Qce Tryz.prog 4=false:=by kernel_rfl
theorem Qys:(Tryz.prog.info? 4).isSome=true:=by kernel_rfl
theorem Zch:Qau Tryz.prog 4=some (1,1):=by kernel_rfl
theorem Q40:Tryz.prog.cellsOf 4=1:=by kernel_rfl
theorem Zci:Qa2 Tryz.prog 4=some (PV.bool Bool.false):=by kernel_rfl
theorem Zcj:Tryz.prog.underlying 4=some .bool:=by kernel_rfl
theorem Zkb:tyOk Tryz.prog 5=true:=by kernel_rfl
theorem Zho:Qce Tryz.prog 5=false:=by kernel_rfl
theorem Qyt:(Tryz.prog.info? 5).isSome=true:=by kernel_rfl
theorem Zck:Qau Tryz.prog 5=some (1,1):=by kernel_rfl
theorem Q41:Tryz.prog.cellsOf 5=1:=by kernel_rfl
theorem Zcl:Qa2 Tryz.prog 5=some (PV.int IntKind.u8 0):=by kernel_rfl
theorem Zhp:Tryz.prog.underlying 5=some (.int .u8):=by kernel_rfl
theorem Zkc:tyOk Tryz.prog 9=true:=by kernel_rfl
theorem Zhq:Qce Tryz.prog 9=false:=by kernel_rfl
theorem Qyu:(Tryz.prog.info? 9).isSome=true:=by kernel_rfl
theorem Zcm:Qau Tryz.prog 9=some (1,16):=by kernel_rfl
theorem Q42:Tryz.prog.cellsOf 9=1:=by kernel_rfl
theorem Zcn:Qa2 Tryz.prog 9=some (PV.str {data:={toList:=[]}}):=by kernel_rfl
theorem Zay:Tryz.prog.underlying 9=some .string:=by kernel_rfl
theorem Zco (s:ByteArray):Qbs Tryz.prog 9 (.str s)=some (.int .i64 s.size):=by simp only [Qbs,Zay]
theorem Zhr:tyOk Tryz.prog 22=true:=by kernel_rfl
theorem Zcp:Qce Tryz.prog 22=false:=by kernel_rfl
theorem Quk:(Tryz.prog.info? 22).isSome=true:=by kernel_rfl
theorem Q43:Qau Tryz.prog 22=some (1,24):=by kernel_rfl
theorem Qyv:Tryz.prog.cellsOf 22=1:=by kernel_rfl
theorem Q44:Qa2 Tryz.prog 22=some PV.nilS:=by kernel_rfl
theorem Q45:Qb0 Tryz.prog 22=some 34:=by kernel_rfl
theorem Qg7:Tryz.prog.underlying 22=some (.slice 34):=by kernel_rfl
theorem Q46 (es:List PV):Qbs Tryz.prog 22 (.slc es)=some (.int .i64 es.length):=by simp only [Qbs,Qg7]
theorem Q47:Qbs Tryz.prog 22 .nilS=some (.int .i64 0):=by simp only [Qbs,Qg7]
theorem Q48 (b e o n:Nat):Qbs Tryz.prog 22 (.bs b e o n)=some (.int .i64 n):=by simp only [Qbs,Qg7]
theorem Zhs:tyOk Tryz.prog 26=true:=by kernel_rfl
theorem Zcq:Qce Tryz.prog 26=true:=by kernel_rfl
theorem Qul:(Tryz.prog.info? 26).isSome=true:=by kernel_rfl
theorem Q49:Qau Tryz.prog 26=some (3,24):=by kernel_rfl
theorem Qyw:Tryz.prog.cellsOf 26=3:=by kernel_rfl
theorem Q5a:Qa2 Tryz.prog 26=some (PV.agg [PV.int IntKind.i64 0,PV.int IntKind.i64 0,PV.int IntKind.i64 0]):=by kernel_rfl
theorem Qyx:buildable Tryz.prog 26=true:=by kernel_rfl
theorem Zcr:Qa1 Tryz.prog 26 0=some (0,3,1):=by kernel_rfl
theorem Zcs:Qac Tryz.prog 26 0=some (0,1):=by kernel_rfl
theorem Zct:Qa1 Tryz.prog 26 1=some (1,3,1):=by kernel_rfl
theorem Zcu:Qac Tryz.prog 26 1=some (1,1):=by kernel_rfl
theorem Zcv:Qa1 Tryz.prog 26 2=some (2,3,1):=by kernel_rfl
theorem Zcw:Qac Tryz.prog 26 2=some (2,1):=by kernel_rfl
theorem Zcx:Qc8 Tryz.prog 26=some [1,1,1]:=by kernel_rfl
theorem Zht:tyOk Tryz.prog 27=true:=by kernel_rfl
theorem Zcy:Qce Tryz.prog 27=false:=by kernel_rfl
theorem Qum:(Tryz.prog.info? 27).isSome=true:=by kernel_rfl
theorem Q5b:Qau Tryz.prog 27=some (1,24):=by kernel_rfl
theorem Qyy:Tryz.prog.cellsOf 27=1:=by kernel_rfl
theorem Q5c:Qa2 Tryz.prog 27=some PV.nilS:=by kernel_rfl
theorem Q5d:Qb0 Tryz.prog 27=some 3:=by kernel_rfl
theorem Qg8:Tryz.prog.underlying 27=some (.slice 3):=by kernel_rfl
theorem Q5e (es:List PV):Qbs Tryz.prog 27 (.slc es)=some (.int .i64 es.length):=by simp only [Qbs,Qg8]
theorem Q5f:Qbs Tryz.prog 27 .nilS=some (.int .i64 0):=by simp only [Qbs,Qg8]
theorem Q5g (b e o n:Nat):Qbs Tryz.prog 27 (.bs b e o n)=some (.int .i64 n):=by simp only [Qbs,Qg8]
theorem Zhu:tyOk Tryz.prog 28=true:=by kernel_rfl
theorem Zcz:Qce Tryz.prog 28=false:=by kernel_rfl
theorem Qun:(Tryz.prog.info? 28).isSome=true:=by kernel_rfl
theorem Q5h:Qau Tryz.prog 28=some (1,8):=by kernel_rfl
theorem Qyz:Tryz.prog.cellsOf 28=1:=by kernel_rfl
theorem Q5i:Qa2 Tryz.prog 28=some (PV.int IntKind.i64 0):=by kernel_rfl
theorem Zc0:Tryz.prog.underlying 28=some (.int .i64):=by kernel_rfl
theorem Zhv:tyOk Tryz.prog 34=true:=by kernel_rfl
theorem Zc1:Qce Tryz.prog 34=true:=by kernel_rfl
theorem Qup:(Tryz.prog.info? 34).isSome=true:=by kernel_rfl
theorem Q5j:Qau Tryz.prog 34=some (11,88):=by kernel_rfl
theorem Qy0:Tryz.prog.cellsOf 34=11:=by kernel_rfl
theorem Q5k:Qa2 Tryz.prog 34=some (PV.agg [PV.int IntKind.i64 0,PV.int IntKind.i64 0,PV.int IntKind.i64 0,PV.int IntKind.i64 0,PV.int IntKind.i64 0,PV.int IntKind.i64 0,PV.int IntKind.i64 0,PV.int IntKind.i64 0,PV.int IntKind.i64 0,PV.int IntKind.i64 0,PV.int IntKind.i64 0]):=by kernel_rfl
theorem Qy1:buildable Tryz.prog 34=true:=by kernel_rfl
theorem Zc2:Qa1 Tryz.prog 34 0=some (0,26,3):=by kernel_rfl
theorem Zc3:Qac Tryz.prog 34 0=some (0,3):=by kernel_rfl
theorem Zc4:Qa1 Tryz.prog 34 1=some (3,26,3):=by kernel_rfl
theorem Zc5:Qac Tryz.prog 34 1=some (3,3):=by kernel_rfl
theorem Zc6:Qa1 Tryz.prog 34 2=some (6,3,1):=by kernel_rfl
theorem Zc7:Qac Tryz.prog 34 2=some (6,1):=by kernel_rfl
theorem Zc8:Qa1 Tryz.prog 34 3=some (7,3,1):=by kernel_rfl
theorem Zc9:Qac Tryz.prog 34 3=some (7,1):=by kernel_rfl
theorem Zda:Qa1 Tryz.prog 34 4=some (8,26,3):=by kernel_rfl
theorem Zdb:Qac Tryz.prog 34 4=some (8,3):=by kernel_rfl
theorem Zdc:Qc8 Tryz.prog 34=some [1,1,1,1,1,1,1,1,1,1,1]:=by kernel_rfl
theorem Zhw:tyOk Tryz.prog 44=true:=by kernel_rfl
theorem Zdd:Qce Tryz.prog 44=false:=by kernel_rfl
theorem Quq:(Tryz.prog.info? 44).isSome=true:=by kernel_rfl
theorem Q5l:Qau Tryz.prog 44=some (1,24):=by kernel_rfl
theorem Qy2:Tryz.prog.cellsOf 44=1:=by kernel_rfl
theorem Q5m:Qa2 Tryz.prog 44=some PV.nilS:=by kernel_rfl
theorem Q5n:Qb0 Tryz.prog 44=some 56:=by kernel_rfl
theorem Qg9:Tryz.prog.underlying 44=some (.slice 56):=by kernel_rfl
theorem Q5o (es:List PV):Qbs Tryz.prog 44 (.slc es)=some (.int .i64 es.length):=by simp only [Qbs,Qg9]
theorem Q5p:Qbs Tryz.prog 44 .nilS=some (.int .i64 0):=by simp only [Qbs,Qg9]
theorem Q5q (b e o n:Nat):Qbs Tryz.prog 44 (.bs b e o n)=some (.int .i64 n):=by simp only [Qbs,Qg9]
theorem Zhx:tyOk Tryz.prog 46=true:=by kernel_rfl
theorem Zde:Qce Tryz.prog 46=false:=by kernel_rfl
theorem Qur:(Tryz.prog.info? 46).isSome=true:=by kernel_rfl
theorem Q5r:Qau Tryz.prog 46=some (1,24):=by kernel_rfl
theorem Qy3:Tryz.prog.cellsOf 46=1:=by kernel_rfl
theorem Q5s:Qa2 Tryz.prog 46=some PV.nilS:=by kernel_rfl
theorem Q5t:Qb0 Tryz.prog 46=some 26:=by kernel_rfl
theorem Qha:Tryz.prog.underlying 46=some (.slice 26):=by kernel_rfl
theorem Q5u (es:List PV):Qbs Tryz.prog 46 (.slc es)=some (.int .i64 es.length):=by simp only [Qbs,Qha]
theorem Q5v:Qbs Tryz.prog 46 .nilS=some (.int .i64 0):=by simp only [Qbs,Qha]
theorem Q5w (b e o n:Nat):Qbs Tryz.prog 46 (.bs b e o n)=some (.int .i64 n):=by simp only [Qbs,Qha]
theorem Zhy:tyOk Tryz.prog 56=true:=by kernel_rfl
theorem Zdf:Qce Tryz.prog 56=true:=by kernel_rfl
theorem Qus:(Tryz.prog.info? 56).isSome=true:=by kernel_rfl
theorem Q5x:Qau Tryz.prog 56=some (6,96):=by kernel_rfl
theorem Qy4:Tryz.prog.cellsOf 56=6:=by kernel_rfl
theorem Q5y:Qa2 Tryz.prog 56=some (PV.agg [PV.int IntKind.i64 0,PV.int IntKind.i64 0,PV.int IntKind.i64 0,PV.nilS,PV.nilS,PV.nilS]):=by kernel_rfl
theorem Qy5:buildable Tryz.prog 56=true:=by kernel_rfl
theorem Zdg:Qa1 Tryz.prog 56 0=some (0,3,1):=by kernel_rfl
theorem Zdh:Qac Tryz.prog 56 0=some (0,1):=by kernel_rfl
theorem Zdi:Qa1 Tryz.prog 56 1=some (1,3,1):=by kernel_rfl
theorem Zdj:Qac Tryz.prog 56 1=some (1,1):=by kernel_rfl
theorem Zdk:Qa1 Tryz.prog 56 2=some (2,3,1):=by kernel_rfl
theorem Zdl:Qac Tryz.prog 56 2=some (2,1):=by kernel_rfl
theorem Zdm:Qa1 Tryz.prog 56 3=some (3,27,1):=by kernel_rfl
theorem Zdn:Qac Tryz.prog 56 3=some (3,1):=by kernel_rfl
theorem Zdo:Qa1 Tryz.prog 56 4=some (4,27,1):=by kernel_rfl
theorem Zdp:Qac Tryz.prog 56 4=some (4,1):=by kernel_rfl
theorem Zdq:Qa1 Tryz.prog 56 5=some (5,27,1):=by kernel_rfl
theorem Zdr:Qac Tryz.prog 56 5=some (5,1):=by kernel_rfl
theorem Zhz:tyOk Tryz.prog 71=true:=by kernel_rfl
theorem Zds:Qce Tryz.prog 71=true:=by kernel_rfl
theorem Qut:(Tryz.prog.info? 71).isSome=true:=by kernel_rfl
theorem Q5z:Qau Tryz.prog 71=some (2,24):=by kernel_rfl
theorem Qy6:Tryz.prog.cellsOf 71=2:=by kernel_rfl
theorem Q50:Qa2 Tryz.prog 71=some (PV.agg [PV.bool Bool.false,PV.str {data:={toList:=[]}}]):=by kernel_rfl
theorem Qy7:buildable Tryz.prog 71=true:=by kernel_rfl
theorem Zdt:Qa1 Tryz.prog 71 0=some (0,4,1):=by kernel_rfl
theorem Zdu:Qac Tryz.prog 71 0=some (0,1):=by kernel_rfl
theorem Zdv:Qa1 Tryz.prog 71 1=some (1,9,1):=by kernel_rfl
theorem Zdw:Qac Tryz.prog 71 1=some (1,1):=by kernel_rfl
theorem Zdx:Qc8 Tryz.prog 71=some [0,2]:=by kernel_rfl
theorem Zh0:tyOk Tryz.prog 73=true:=by kernel_rfl
theorem Zdy:Qce Tryz.prog 73=true:=by kernel_rfl
theorem Quu:(Tryz.prog.info? 73).isSome=true:=by kernel_rfl
theorem Q51:Qau Tryz.prog 73=some (8,96):=by kernel_rfl
theorem Qy8:Tryz.prog.cellsOf 73=8:=by kernel_rfl
theorem Q52:Qa2 Tryz.prog 73=some (PV.agg [PV.bool Bool.false,PV.str {data:={toList:=[]}},PV.bool Bool.false,PV.str {data:={toList:=[]}},PV.bool Bool.false,PV.str {data:={toList:=[]}},PV.bool Bool.false,PV.str {data:={toList:=[]}}]):=by kernel_rfl
theorem Qy9:buildable Tryz.prog 73=true:=by kernel_rfl
theorem Zdz:Qa1 Tryz.prog 73 0=some (0,71,2):=by kernel_rfl
theorem Zd0:Qac Tryz.prog 73 0=some (0,2):=by kernel_rfl
theorem Zd1:Qa1 Tryz.prog 73 1=some (2,71,2):=by kernel_rfl
theorem Zd2:Qac Tryz.prog 73 1=some (2,2):=by kernel_rfl
theorem Zd3:Qa1 Tryz.prog 73 2=some (4,71,2):=by kernel_rfl
theorem Zd4:Qac Tryz.prog 73 2=some (4,2):=by kernel_rfl
theorem Zd5:Qa1 Tryz.prog 73 3=some (6,71,2):=by kernel_rfl
theorem Zd6:Qac Tryz.prog 73 3=some (6,2):=by kernel_rfl
theorem Zd7:Qc8 Tryz.prog 73=some [0,2,0,2,0,2,0,2]:=by kernel_rfl
theorem Zh1:tyOk Tryz.prog 74=true:=by kernel_rfl
theorem Zd8:Qce Tryz.prog 74=false:=by kernel_rfl
theorem Quv:(Tryz.prog.info? 74).isSome=true:=by kernel_rfl
theorem Q53:Qau Tryz.prog 74=some (1,24):=by kernel_rfl
theorem Qza:Tryz.prog.cellsOf 74=1:=by kernel_rfl
theorem Q54:Qa2 Tryz.prog 74=some PV.nilS:=by kernel_rfl
theorem Q55:Qb0 Tryz.prog 74=some 76:=by kernel_rfl
theorem Qhb:Tryz.prog.underlying 74=some (.slice 76):=by kernel_rfl
theorem Q56 (es:List PV):Qbs Tryz.prog 74 (.slc es)=some (.int .i64 es.length):=by simp only [Qbs,Qhb]
theorem Q57:Qbs Tryz.prog 74 .nilS=some (.int .i64 0):=by simp only [Qbs,Qhb]
theorem Q58 (b e o n:Nat):Qbs Tryz.prog 74 (.bs b e o n)=some (.int .i64 n):=by simp only [Qbs,Qhb]
theorem Zh2:tyOk Tryz.prog 76=true:=by kernel_rfl
theorem Zd9:Qce Tryz.prog 76=true:=by kernel_rfl
theorem Quw:(Tryz.prog.info? 76).isSome=true:=by kernel_rfl
theorem Q59:Qau Tryz.prog 76=some (2,32):=by kernel_rfl
theorem Qzb:Tryz.prog.cellsOf 76=2:=by kernel_rfl
theorem Q6a:Qa2 Tryz.prog 76=some (PV.agg [PV.bool Bool.false,PV.nilS]):=by kernel_rfl
theorem Qzc:buildable Tryz.prog 76=true:=by kernel_rfl
theorem Zea:Qa1 Tryz.prog 76 0=some (0,4,1):=by kernel_rfl
theorem Zeb:Qac Tryz.prog 76 0=some (0,1):=by kernel_rfl
theorem Zec:Qa1 Tryz.prog 76 1=some (1,27,1):=by kernel_rfl
theorem Zed:Qac Tryz.prog 76 1=some (1,1):=by kernel_rfl
theorem Zh3:tyOk Tryz.prog 78=true:=by kernel_rfl
theorem Zee:Qce Tryz.prog 78=true:=by kernel_rfl
theorem Qux:(Tryz.prog.info? 78).isSome=true:=by kernel_rfl
theorem Q6b:Qau Tryz.prog 78=some (3,56):=by kernel_rfl
theorem Qzd:Tryz.prog.cellsOf 78=3:=by kernel_rfl
theorem Q6c:Qa2 Tryz.prog 78=some (PV.agg [PV.nilS,PV.bool Bool.false,PV.nilS]):=by kernel_rfl
theorem Qze:buildable Tryz.prog 78=true:=by kernel_rfl
theorem Zef:Qa1 Tryz.prog 78 0=some (0,74,1):=by kernel_rfl
theorem Zeg:Qac Tryz.prog 78 0=some (0,1):=by kernel_rfl
theorem Zeh:Qa1 Tryz.prog 78 1=some (1,76,2):=by kernel_rfl
theorem Zei:Qac Tryz.prog 78 1=some (1,2):=by kernel_rfl
theorem Zh4:tyOk Tryz.prog 87=true:=by kernel_rfl
theorem Zej:Qce Tryz.prog 87=true:=by kernel_rfl
theorem Quy:(Tryz.prog.info? 87).isSome=true:=by kernel_rfl
theorem Q6d:Qau Tryz.prog 87=some (3,24):=by kernel_rfl
theorem Qzf:Tryz.prog.cellsOf 87=3:=by kernel_rfl
theorem Q6e:Qa2 Tryz.prog 87=some (PV.agg [PV.int IntKind.i64 0,PV.int IntKind.i64 0,PV.int IntKind.i64 0]):=by kernel_rfl
theorem Zek:Qe7 Tryz.prog 87=some (3,3):=by kernel_rfl
theorem Qzg:buildable Tryz.prog 87=true:=by kernel_rfl
theorem Zel:Qac Tryz.prog 87 0=some (0,1):=by kernel_rfl
theorem Zem:Qac Tryz.prog 87 1=some (1,1):=by kernel_rfl
theorem Zen:Qac Tryz.prog 87 2=some (2,1):=by kernel_rfl
theorem Zeo:Qac Tryz.prog 87 3=some (3,1):=by kernel_rfl
theorem Zep:Qac Tryz.prog 87 4=some (4,1):=by kernel_rfl
theorem Zeq:Qac Tryz.prog 87 5=some (5,1):=by kernel_rfl
theorem Zer:Qac Tryz.prog 87 6=some (6,1):=by kernel_rfl
theorem Zes:Qac Tryz.prog 87 7=some (7,1):=by kernel_rfl
theorem Zet:Qac Tryz.prog 87 8=some (8,1):=by kernel_rfl
theorem Zeu:Qac Tryz.prog 87 9=some (9,1):=by kernel_rfl
theorem Q6f:Qac Tryz.prog 87 10=some (10,1):=by kernel_rfl
theorem Q6g:Qac Tryz.prog 87 11=some (11,1):=by kernel_rfl
theorem Q6h:Qac Tryz.prog 87 12=some (12,1):=by kernel_rfl
theorem Q6i:Qac Tryz.prog 87 13=some (13,1):=by kernel_rfl
theorem Q6j:Qac Tryz.prog 87 14=some (14,1):=by kernel_rfl
theorem Q6k:Qac Tryz.prog 87 15=some (15,1):=by kernel_rfl
theorem Q6l:Qac Tryz.prog 87 16=some (16,1):=by kernel_rfl
theorem Q6m:Qac Tryz.prog 87 17=some (17,1):=by kernel_rfl
theorem Q6n:Qac Tryz.prog 87 18=some (18,1):=by kernel_rfl
theorem Q6o:Qac Tryz.prog 87 19=some (19,1):=by kernel_rfl
theorem Zh5:tyOk Tryz.prog 89=true:=by kernel_rfl
theorem Zev:Qce Tryz.prog 89=false:=by kernel_rfl
theorem Quz:(Tryz.prog.info? 89).isSome=true:=by kernel_rfl
theorem Q6p:Qau Tryz.prog 89=some (1,8):=by kernel_rfl
theorem Qzh:Tryz.prog.cellsOf 89=1:=by kernel_rfl
theorem Q6q:Qa2 Tryz.prog 89=some PV.nilF:=by kernel_rfl
theorem Zh6:tyOk Tryz.prog 92=true:=by kernel_rfl
theorem Zew:Qce Tryz.prog 92=false:=by kernel_rfl
theorem Qu0:(Tryz.prog.info? 92).isSome=true:=by kernel_rfl
theorem Q6r:Qau Tryz.prog 92=some (1,8):=by kernel_rfl
theorem Qzi:Tryz.prog.cellsOf 92=1:=by kernel_rfl
theorem Q6s:Qa2 Tryz.prog 92=some PV.nilF:=by kernel_rfl
theorem Zh7:tyOk Tryz.prog 93=true:=by kernel_rfl
theorem Zex:Qce Tryz.prog 93=false:=by kernel_rfl
theorem Qu1:(Tryz.prog.info? 93).isSome=true:=by kernel_rfl
theorem Q6t:Qau Tryz.prog 93=some (1,8):=by kernel_rfl
theorem Qzj:Tryz.prog.cellsOf 93=1:=by kernel_rfl
theorem Q6u:Qa2 Tryz.prog 93=some (PV.int IntKind.u64 0):=by kernel_rfl
theorem Zey:Tryz.prog.underlying 93=some (.int .u64):=by kernel_rfl
theorem Zh8:tyOk Tryz.prog 94=true:=by kernel_rfl
theorem Zez:Qce Tryz.prog 94=false:=by kernel_rfl
theorem Qu2:(Tryz.prog.info? 94).isSome=true:=by kernel_rfl
theorem Q6v:Qau Tryz.prog 94=some (1,8):=by kernel_rfl
theorem Qzk:Tryz.prog.cellsOf 94=1:=by kernel_rfl
theorem Q6w:Qa2 Tryz.prog 94=some (PV.int IntKind.u64 0):=by kernel_rfl
theorem Ze0:Tryz.prog.underlying 94=some (.int .u64):=by kernel_rfl
theorem Ze1:tyOk Tryz.prog 109=true:=by kernel_rfl
theorem Q6x:Qce Tryz.prog 109=true:=by kernel_rfl
theorem Qq4:(Tryz.prog.info? 109).isSome=true:=by kernel_rfl
theorem Qzl:Qau Tryz.prog 109=some (6,72):=by kernel_rfl
theorem Qu3:Tryz.prog.cellsOf 109=6:=by kernel_rfl
theorem Qzm:Qa2 Tryz.prog 109=some (PV.agg [PV.bool Bool.false,PV.str {data:={toList:=[]}},PV.bool Bool.false,PV.str {data:={toList:=[]}},PV.bool Bool.false,PV.str {data:={toList:=[]}}]):=by kernel_rfl
theorem Q6y:Qe7 Tryz.prog 109=some (3,71):=by kernel_rfl
theorem Qu4:buildable Tryz.prog 109=true:=by kernel_rfl
theorem Q6z:Qac Tryz.prog 109 0=some (0,2):=by kernel_rfl
theorem Q60:Qac Tryz.prog 109 1=some (2,2):=by kernel_rfl
theorem Q61:Qac Tryz.prog 109 2=some (4,2):=by kernel_rfl
theorem Q62:Qac Tryz.prog 109 3=some (6,2):=by kernel_rfl
theorem Q63:Qac Tryz.prog 109 4=some (8,2):=by kernel_rfl
theorem Q64:Qac Tryz.prog 109 5=some (10,2):=by kernel_rfl
theorem Q65:Qac Tryz.prog 109 6=some (12,2):=by kernel_rfl
theorem Q66:Qac Tryz.prog 109 7=some (14,2):=by kernel_rfl
theorem Q67:Qac Tryz.prog 109 8=some (16,2):=by kernel_rfl
theorem Q68:Qac Tryz.prog 109 9=some (18,2):=by kernel_rfl
theorem Qzn:Qac Tryz.prog 109 10=some (20,2):=by kernel_rfl
theorem Qzo:Qac Tryz.prog 109 11=some (22,2):=by kernel_rfl
theorem Qzp:Qac Tryz.prog 109 12=some (24,2):=by kernel_rfl
theorem Qzq:Qac Tryz.prog 109 13=some (26,2):=by kernel_rfl
theorem Qzr:Qac Tryz.prog 109 14=some (28,2):=by kernel_rfl
theorem Qzs:Qac Tryz.prog 109 15=some (30,2):=by kernel_rfl
theorem Qzt:Qac Tryz.prog 109 16=some (32,2):=by kernel_rfl
theorem Qzu:Qac Tryz.prog 109 17=some (34,2):=by kernel_rfl
theorem Qzv:Qac Tryz.prog 109 18=some (36,2):=by kernel_rfl
theorem Qzw:Qac Tryz.prog 109 19=some (38,2):=by kernel_rfl
theorem Ze2:tyOk Tryz.prog 145=true:=by kernel_rfl
theorem Q69:Qce Tryz.prog 145=true:=by kernel_rfl
theorem Qq5:(Tryz.prog.info? 145).isSome=true:=by kernel_rfl
theorem Qzx:Qau Tryz.prog 145=some (4,96):=by kernel_rfl
theorem Qu5:Tryz.prog.cellsOf 145=4:=by kernel_rfl
theorem Qzy:Qa2 Tryz.prog 145=some (PV.agg [PV.nilS,PV.nilS,PV.nilS,PV.nilS]):=by kernel_rfl
theorem Q7a:Qe7 Tryz.prog 145=some (4,27):=by kernel_rfl
theorem Qu6:buildable Tryz.prog 145=true:=by kernel_rfl
theorem Q7b:Qac Tryz.prog 145 0=some (0,1):=by kernel_rfl
theorem Q7c:Qac Tryz.prog 145 1=some (1,1):=by kernel_rfl
theorem Q7d:Qac Tryz.prog 145 2=some (2,1):=by kernel_rfl
theorem Q7e:Qac Tryz.prog 145 3=some (3,1):=by kernel_rfl
theorem Q7f:Qac Tryz.prog 145 4=some (4,1):=by kernel_rfl
theorem Q7g:Qac Tryz.prog 145 5=some (5,1):=by kernel_rfl
theorem Q7h:Qac Tryz.prog 145 6=some (6,1):=by kernel_rfl
theorem Q7i:Qac Tryz.prog 145 7=some (7,1):=by kernel_rfl
theorem Q7j:Qac Tryz.prog 145 8=some (8,1):=by kernel_rfl
theorem Q7k:Qac Tryz.prog 145 9=some (9,1):=by kernel_rfl
theorem Qzz:Qac Tryz.prog 145 10=some (10,1):=by kernel_rfl
theorem Qz0:Qac Tryz.prog 145 11=some (11,1):=by kernel_rfl
theorem Qz1:Qac Tryz.prog 145 12=some (12,1):=by kernel_rfl
theorem Qz2:Qac Tryz.prog 145 13=some (13,1):=by kernel_rfl
theorem Qz3:Qac Tryz.prog 145 14=some (14,1):=by kernel_rfl
theorem Qz4:Qac Tryz.prog 145 15=some (15,1):=by kernel_rfl
theorem Qz5:Qac Tryz.prog 145 16=some (16,1):=by kernel_rfl
theorem Qz6:Qac Tryz.prog 145 17=some (17,1):=by kernel_rfl
theorem Qz7:Qac Tryz.prog 145 18=some (18,1):=by kernel_rfl
theorem Qz8:Qac Tryz.prog 145 19=some (19,1):=by kernel_rfl
theorem Ze3:tyOk Tryz.prog 158=true:=by kernel_rfl
theorem Q7l:Qce Tryz.prog 158=false:=by kernel_rfl
theorem Qq6:(Tryz.prog.info? 158).isSome=true:=by kernel_rfl
theorem Qz9:Qau Tryz.prog 158=some (1,24):=by kernel_rfl
theorem Qu7:Tryz.prog.cellsOf 158=1:=by kernel_rfl
theorem Q0a:Qa2 Tryz.prog 158=some PV.nilS:=by kernel_rfl
theorem Q0b:Qb0 Tryz.prog 158=some 162:=by kernel_rfl
theorem Qf1:Tryz.prog.underlying 158=some (.slice 162):=by kernel_rfl
theorem Q0c (es:List PV):Qbs Tryz.prog 158 (.slc es)=some (.int .i64 es.length):=by simp only [Qbs,Qf1]
theorem Q0d:Qbs Tryz.prog 158 .nilS=some (.int .i64 0):=by simp only [Qbs,Qf1]
theorem Q0e (b e o n:Nat):Qbs Tryz.prog 158 (.bs b e o n)=some (.int .i64 n):=by simp only [Qbs,Qf1]
theorem Ze4:tyOk Tryz.prog 160=true:=by kernel_rfl
theorem Q7m:Qce Tryz.prog 160=true:=by kernel_rfl
theorem Qq7:(Tryz.prog.info? 160).isSome=true:=by kernel_rfl
theorem Q0f:Qau Tryz.prog 160=some (2,32):=by kernel_rfl
theorem Qu8:Tryz.prog.cellsOf 160=2:=by kernel_rfl
theorem Q0g:Qa2 Tryz.prog 160=some (PV.agg [PV.bool Bool.false,PV.nilS]):=by kernel_rfl
theorem Qu9:buildable Tryz.prog 160=true:=by kernel_rfl
theorem Q7n:Qa1 Tryz.prog 160 0=some (0,4,1):=by kernel_rfl
theorem Q7o:Qac Tryz.prog 160 0=some (0,1):=by kernel_rfl
theorem Q7p:Qa1 Tryz.prog 160 1=some (1,158,1):=by kernel_rfl
theorem Q7q:Qac Tryz.prog 160 1=some (1,1):=by kernel_rfl
theorem Ze5:tyOk Tryz.prog 162=true:=by kernel_rfl
theorem Q7r:Qce Tryz.prog 162=false:=by kernel_rfl
theorem Qq8:(Tryz.prog.info? 162).isSome=true:=by kernel_rfl
theorem Q0h:Qau Tryz.prog 162=some (1,8):=by kernel_rfl
theorem Qva:Tryz.prog.cellsOf 162=1:=by kernel_rfl
theorem Q0i:Qa2 Tryz.prog 162=some (PV.int IntKind.u64 0):=by kernel_rfl
theorem Q7s:Tryz.prog.underlying 162=some (.int .u64):=by kernel_rfl
theorem Ze6:tyOk Tryz.prog 169=true:=by kernel_rfl
theorem Q7t:Qce Tryz.prog 169=true:=by kernel_rfl
theorem Qq9:(Tryz.prog.info? 169).isSome=true:=by kernel_rfl
theorem Q0j:Qau Tryz.prog 169=some (3,72):=by kernel_rfl
theorem Qvb:Tryz.prog.cellsOf 169=3:=by kernel_rfl
theorem Q0k:Qa2 Tryz.prog 169=some (PV.agg [PV.nilS,PV.nilS,PV.nilS]):=by kernel_rfl
theorem Q7u:Qe7 Tryz.prog 169=some (3,27):=by kernel_rfl
theorem Qvc:buildable Tryz.prog 169=true:=by kernel_rfl
theorem Q7v:Qac Tryz.prog 169 0=some (0,1):=by kernel_rfl
theorem Q7w:Qac Tryz.prog 169 1=some (1,1):=by kernel_rfl
theorem Q7x:Qac Tryz.prog 169 2=some (2,1):=by kernel_rfl
theorem Q7y:Qac Tryz.prog 169 3=some (3,1):=by kernel_rfl
theorem Q7z:Qac Tryz.prog 169 4=some (4,1):=by kernel_rfl
theorem Q70:Qac Tryz.prog 169 5=some (5,1):=by kernel_rfl
theorem Q71:Qac Tryz.prog 169 6=some (6,1):=by kernel_rfl
theorem Q72:Qac Tryz.prog 169 7=some (7,1):=by kernel_rfl
theorem Q73:Qac Tryz.prog 169 8=some (8,1):=by kernel_rfl
theorem Q74:Qac Tryz.prog 169 9=some (9,1):=by kernel_rfl
theorem Q0l:Qac Tryz.prog 169 10=some (10,1):=by kernel_rfl
theorem Q0m:Qac Tryz.prog 169 11=some (11,1):=by kernel_rfl
theorem Q0n:Qac Tryz.prog 169 12=some (12,1):=by kernel_rfl
theorem Q0o:Qac Tryz.prog 169 13=some (13,1):=by kernel_rfl
theorem Q0p:Qac Tryz.prog 169 14=some (14,1):=by kernel_rfl
theorem Q0q:Qac Tryz.prog 169 15=some (15,1):=by kernel_rfl
theorem Q0r:Qac Tryz.prog 169 16=some (16,1):=by kernel_rfl
theorem Q0s:Qac Tryz.prog 169 17=some (17,1):=by kernel_rfl
theorem Q0t:Qac Tryz.prog 169 18=some (18,1):=by kernel_rfl
theorem Q0u:Qac Tryz.prog 169 19=some (19,1):=by kernel_rfl
theorem Ze7:tyOk Tryz.prog 191=true:=by kernel_rfl
theorem Q75:Qce Tryz.prog 191=false:=by kernel_rfl
theorem Qra:(Tryz.prog.info? 191).isSome=true:=by kernel_rfl
theorem Q0v:Qau Tryz.prog 191=some (1,24):=by kernel_rfl
theorem Qvd:Tryz.prog.cellsOf 191=1:=by kernel_rfl
theorem Q0w:Qa2 Tryz.prog 191=some PV.nilS:=by kernel_rfl
theorem Q0x:Qb0 Tryz.prog 191=some 5:=by kernel_rfl
theorem Qf2:Tryz.prog.underlying 191=some (.slice 5):=by kernel_rfl
theorem Q0y (es:List PV):Qbs Tryz.prog 191 (.slc es)=some (.int .i64 es.length):=by simp only [Qbs,Qf2]
theorem Q0z:Qbs Tryz.prog 191 .nilS=some (.int .i64 0):=by simp only [Qbs,Qf2]
theorem Q00 (b e o n:Nat):Qbs Tryz.prog 191 (.bs b e o n)=some (.int .i64 n):=by simp only [Qbs,Qf2]
theorem Ze8:tyOk Tryz.prog 204=true:=by kernel_rfl
theorem Q76:Qce Tryz.prog 204=false:=by kernel_rfl
theorem Qrb:(Tryz.prog.info? 204).isSome=true:=by kernel_rfl
theorem Q01:Qau Tryz.prog 204=some (1,4):=by kernel_rfl
theorem Qve:Tryz.prog.cellsOf 204=1:=by kernel_rfl
theorem Q02:Qa2 Tryz.prog 204=some (PV.int IntKind.u32 0):=by kernel_rfl
theorem Q77:Tryz.prog.underlying 204=some (.int .u32):=by kernel_rfl
theorem Ze9:tyOk Tryz.prog 216=true:=by kernel_rfl
theorem Q78:Qce Tryz.prog 216=true:=by kernel_rfl
theorem Qrc:(Tryz.prog.info? 216).isSome=true:=by kernel_rfl
theorem Q03:Qau Tryz.prog 216=some (6,48):=by kernel_rfl
theorem Qvf:Tryz.prog.cellsOf 216=6:=by kernel_rfl
theorem Q04:Qa2 Tryz.prog 216=some (PV.agg [PV.int IntKind.i64 0,PV.int IntKind.i64 0,PV.int IntKind.i64 0,PV.int IntKind.i64 0,PV.int IntKind.i64 0,PV.int IntKind.i64 0]):=by kernel_rfl
theorem Q79:Qe7 Tryz.prog 216=some (6,3):=by kernel_rfl
theorem Qvg:buildable Tryz.prog 216=true:=by kernel_rfl
theorem Q8a:Qac Tryz.prog 216 0=some (0,1):=by kernel_rfl
theorem Q8b:Qac Tryz.prog 216 1=some (1,1):=by kernel_rfl
theorem Q8c:Qac Tryz.prog 216 2=some (2,1):=by kernel_rfl
theorem Q8d:Qac Tryz.prog 216 3=some (3,1):=by kernel_rfl
theorem Q8e:Qac Tryz.prog 216 4=some (4,1):=by kernel_rfl
theorem Q8f:Qac Tryz.prog 216 5=some (5,1):=by kernel_rfl
theorem Q8g:Qac Tryz.prog 216 6=some (6,1):=by kernel_rfl
theorem Q8h:Qac Tryz.prog 216 7=some (7,1):=by kernel_rfl
theorem Q8i:Qac Tryz.prog 216 8=some (8,1):=by kernel_rfl
theorem Q8j:Qac Tryz.prog 216 9=some (9,1):=by kernel_rfl
theorem Q05:Qac Tryz.prog 216 10=some (10,1):=by kernel_rfl
theorem Q06:Qac Tryz.prog 216 11=some (11,1):=by kernel_rfl
theorem Q07:Qac Tryz.prog 216 12=some (12,1):=by kernel_rfl
theorem Q08:Qac Tryz.prog 216 13=some (13,1):=by kernel_rfl
theorem Q09:Qac Tryz.prog 216 14=some (14,1):=by kernel_rfl
theorem Q1a:Qac Tryz.prog 216 15=some (15,1):=by kernel_rfl
theorem Q1b:Qac Tryz.prog 216 16=some (16,1):=by kernel_rfl
theorem Q1c:Qac Tryz.prog 216 17=some (17,1):=by kernel_rfl
theorem Q1d:Qac Tryz.prog 216 18=some (18,1):=by kernel_rfl
theorem Q1e:Qac Tryz.prog 216 19=some (19,1):=by kernel_rfl
theorem Zfa:tyOk Tryz.prog 217=true:=by kernel_rfl
theorem Q8k:Qce Tryz.prog 217=true:=by kernel_rfl
theorem Qrd:(Tryz.prog.info? 217).isSome=true:=by kernel_rfl
theorem Q1f:Qau Tryz.prog 217=some (36,288):=by kernel_rfl
theorem Qvh:Tryz.prog.cellsOf 217=36:=by kernel_rfl
theorem Q1g:Qa2 Tryz.prog 217=some (PV.agg [PV.int IntKind.i64 0,PV.int IntKind.i64 0,PV.int IntKind.i64 0,PV.int IntKind.i64 0,PV.int IntKind.i64 0,PV.int IntKind.i64 0,PV.int IntKind.i64 0,PV.int IntKind.i64 0,PV.int IntKind.i64 0,PV.int IntKind.i64 0,PV.int IntKind.i64 0,PV.int IntKind.i64 0,PV.int IntKind.i64 0,PV.int IntKind.i64 0,PV.int IntKind.i64 0,PV.int IntKind.i64 0,PV.int IntKind.i64 0,PV.int IntKind.i64 0,PV.int IntKind.i64 0,PV.int IntKind.i64 0,PV.int IntKind.i64 0,PV.int IntKind.i64 0,PV.int IntKind.i64 0,PV.int IntKind.i64 0,PV.int IntKind.i64 0,PV.int IntKind.i64 0,PV.int IntKind.i64 0,PV.int IntKind.i64 0,PV.int IntKind.i64 0,PV.int IntKind.i64 0,PV.int IntKind.i64 0,PV.int IntKind.i64 0,PV.int IntKind.i64 0,PV.int IntKind.i64 0,PV.int IntKind.i64 0,PV.int IntKind.i64 0]):=by kernel_rfl
theorem Q8l:Qe7 Tryz.prog 217=some (6,216):=by kernel_rfl
theorem Qvi:buildable Tryz.prog 217=true:=by kernel_rfl
theorem Q8m:Qac Tryz.prog 217 0=some (0,6):=by kernel_rfl
theorem Q8n:Qac Tryz.prog 217 1=some (6,6):=by kernel_rfl
theorem Q8o:Qac Tryz.prog 217 2=some (12,6):=by kernel_rfl
theorem Q8p:Qac Tryz.prog 217 3=some (18,6):=by kernel_rfl
theorem Q8q:Qac Tryz.prog 217 4=some (24,6):=by kernel_rfl
theorem Q8r:Qac Tryz.prog 217 5=some (30,6):=by kernel_rfl
theorem Q8s:Qac Tryz.prog 217 6=some (36,6):=by kernel_rfl
theorem Q8t:Qac Tryz.prog 217 7=some (42,6):=by kernel_rfl
theorem Q8u:Qac Tryz.prog 217 8=some (48,6):=by kernel_rfl
theorem Q8v:Qac Tryz.prog 217 9=some (54,6):=by kernel_rfl
theorem Q1h:Qac Tryz.prog 217 10=some (60,6):=by kernel_rfl
theorem Q1i:Qac Tryz.prog 217 11=some (66,6):=by kernel_rfl
theorem Q1j:Qac Tryz.prog 217 12=some (72,6):=by kernel_rfl
theorem Q1k:Qac Tryz.prog 217 13=some (78,6):=by kernel_rfl
theorem Q1l:Qac Tryz.prog 217 14=some (84,6):=by kernel_rfl
theorem Q1m:Qac Tryz.prog 217 15=some (90,6):=by kernel_rfl
theorem Q1n:Qac Tryz.prog 217 16=some (96,6):=by kernel_rfl
theorem Q1o:Qac Tryz.prog 217 17=some (102,6):=by kernel_rfl
theorem Q1p:Qac Tryz.prog 217 18=some (108,6):=by kernel_rfl
theorem Q1q:Qac Tryz.prog 217 19=some (114,6):=by kernel_rfl
theorem Zfb:tyOk Tryz.prog 238=true:=by kernel_rfl
theorem Q8w:Qce Tryz.prog 238=true:=by kernel_rfl
theorem Qre:(Tryz.prog.info? 238).isSome=true:=by kernel_rfl
theorem Q1r:Qau Tryz.prog 238=some (64,64):=by kernel_rfl
theorem Qvj:Tryz.prog.cellsOf 238=64:=by kernel_rfl
theorem Q1s:Qa2 Tryz.prog 238=some (PV.agg [PV.int IntKind.u8 0,PV.int IntKind.u8 0,PV.int IntKind.u8 0,PV.int IntKind.u8 0,PV.int IntKind.u8 0,PV.int IntKind.u8 0,PV.int IntKind.u8 0,PV.int IntKind.u8 0,PV.int IntKind.u8 0,PV.int IntKind.u8 0,PV.int IntKind.u8 0,PV.int IntKind.u8 0,PV.int IntKind.u8 0,PV.int IntKind.u8 0,PV.int IntKind.u8 0,PV.int IntKind.u8 0,PV.int IntKind.u8 0,PV.int IntKind.u8 0,PV.int IntKind.u8 0,PV.int IntKind.u8 0,PV.int IntKind.u8 0,PV.int IntKind.u8 0,PV.int IntKind.u8 0,PV.int IntKind.u8 0,PV.int IntKind.u8 0,PV.int IntKind.u8 0,PV.int IntKind.u8 0,PV.int IntKind.u8 0,PV.int IntKind.u8 0,PV.int IntKind.u8 0,PV.int IntKind.u8 0,PV.int IntKind.u8 0,PV.int IntKind.u8 0,PV.int IntKind.u8 0,PV.int IntKind.u8 0,PV.int IntKind.u8 0,PV.int IntKind.u8 0,PV.int IntKind.u8 0,PV.int IntKind.u8 0,PV.int IntKind.u8 0,PV.int IntKind.u8 0,PV.int IntKind.u8 0,PV.int IntKind.u8 0,PV.int IntKind.u8 0,PV.int IntKind.u8 0,PV.int IntKind.u8 0,PV.int IntKind.u8 0,PV.int IntKind.u8 0,PV.int IntKind.u8 0,PV.int IntKind.u8 0,PV.int IntKind.u8 0,PV.int IntKind.u8 0,PV.int IntKind.u8 0,PV.int IntKind.u8 0,PV.int IntKind.u8 0,PV.int IntKind.u8 0,PV.int IntKind.u8 0,PV.int IntKind.u8 0,PV.int IntKind.u8 0,PV.int IntKind.u8 0,PV.int IntKind.u8 0,PV.int IntKind.u8 0,PV.int IntKind.u8 0,PV.int IntKind.u8 0]):=by kernel_rfl
theorem Q8x:Qe7 Tryz.prog 238=some (64,5):=by kernel_rfl
theorem Qvk:buildable Tryz.prog 238=true:=by kernel_rfl
theorem Q8y:Qac Tryz.prog 238 0=some (0,1):=by kernel_rfl
theorem Q8z:Qac Tryz.prog 238 1=some (1,1):=by kernel_rfl
theorem Q80:Qac Tryz.prog 238 2=some (2,1):=by kernel_rfl
theorem Q81:Qac Tryz.prog 238 3=some (3,1):=by kernel_rfl
theorem Q82:Qac Tryz.prog 238 4=some (4,1):=by kernel_rfl
theorem Q83:Qac Tryz.prog 238 5=some (5,1):=by kernel_rfl
theorem Q84:Qac Tryz.prog 238 6=some (6,1):=by kernel_rfl
theorem Q85:Qac Tryz.prog 238 7=some (7,1):=by kernel_rfl
theorem Q86:Qac Tryz.prog 238 8=some (8,1):=by kernel_rfl
theorem Q87:Qac Tryz.prog 238 9=some (9,1):=by kernel_rfl
theorem Q1t:Qac Tryz.prog 238 10=some (10,1):=by kernel_rfl
theorem Q1u:Qac Tryz.prog 238 11=some (11,1):=by kernel_rfl
theorem Q1v:Qac Tryz.prog 238 12=some (12,1):=by kernel_rfl
theorem Q1w:Qac Tryz.prog 238 13=some (13,1):=by kernel_rfl
theorem Q1x:Qac Tryz.prog 238 14=some (14,1):=by kernel_rfl
theorem Q1y:Qac Tryz.prog 238 15=some (15,1):=by kernel_rfl
theorem Q1z:Qac Tryz.prog 238 16=some (16,1):=by kernel_rfl
theorem Q10:Qac Tryz.prog 238 17=some (17,1):=by kernel_rfl
theorem Q11:Qac Tryz.prog 238 18=some (18,1):=by kernel_rfl
theorem Q12:Qac Tryz.prog 238 19=some (19,1):=by kernel_rfl
theorem Zfc:tyOk Tryz.prog 240=true:=by kernel_rfl
theorem Q88:Qce Tryz.prog 240=false:=by kernel_rfl
theorem Qrf:(Tryz.prog.info? 240).isSome=true:=by kernel_rfl
theorem Q13:Qau Tryz.prog 240=some (1,8):=by kernel_rfl
theorem Qvl:Tryz.prog.cellsOf 240=1:=by kernel_rfl
theorem Q14:Qa2 Tryz.prog 240=some (PV.int IntKind.i64 0):=by kernel_rfl
theorem Q89:Tryz.prog.underlying 240=some (.int .i64):=by kernel_rfl
theorem Zfd:tyOk Tryz.prog 274=true:=by kernel_rfl
theorem Q9a:Qce Tryz.prog 274=false:=by kernel_rfl
theorem Qrg:(Tryz.prog.info? 274).isSome=true:=by kernel_rfl
theorem Q15:Qau Tryz.prog 274=some (1,16):=by kernel_rfl
theorem Qvm:Tryz.prog.cellsOf 274=1:=by kernel_rfl
theorem Q16:Qa2 Tryz.prog 274=some PV.nilI:=by kernel_rfl
attribute [go_sem] Zj9 Zhl Qyr Zcf Q4z Zcg Zhm Zka Zhn Qys Zch Q40 Zci Zcj Zkb Zho
attribute [go_sem] Qyt Zck Q41 Zcl Zhp Zkc Zhq Qyu Zcm Q42 Zcn Zay Zco Zhr Zcp Quk
attribute [go_sem] Q43 Qyv Q44 Q45 Qg7 Q46 Q47 Q48 Zhs Zcq Qul Q49 Qyw Q5a Qyx Zcr
attribute [go_sem] Zcs Zct Zcu Zcv Zcw Zcx Zht Zcy Qum Q5b Qyy Q5c Q5d Qg8 Q5e Q5f
attribute [go_sem] Q5g Zhu Zcz Qun Q5h Qyz Q5i Zc0 Zhv Zc1 Qup Q5j Qy0 Q5k Qy1 Zc2
attribute [go_sem] Zc3 Zc4 Zc5 Zc6 Zc7 Zc8 Zc9 Zda Zdb Zdc Zhw Zdd Quq Q5l Qy2 Q5m
attribute [go_sem] Q5n Qg9 Q5o Q5p Q5q Zhx Zde Qur Q5r Qy3 Q5s Q5t Qha Q5u Q5v Q5w
attribute [go_sem] Zhy Zdf Qus Q5x Qy4 Q5y Qy5 Zdg Zdh Zdi Zdj Zdk Zdl Zdm Zdn Zdo
attribute [go_sem] Zdp Zdq Zdr
attribute [go_sem] Zhz Zds Qut Q5z Qy6 Q50 Qy7 Zdt Zdu Zdv Zdw
attribute [go_sem] Zdx Zh0 Zdy Quu Q51 Qy8 Q52 Qy9 Zdz Zd0 Zd1 Zd2 Zd3 Zd4 Zd5 Zd6
attribute [go_sem] Zd7 Zh1 Zd8 Quv Q53 Qza Q54 Q55 Qhb Q56 Q57 Q58 Zh2 Zd9 Quw Q59
attribute [go_sem] Qzb Q6a Qzc Zea Zeb Zec Zed Zh3 Zee Qux Q6b Qzd Q6c Qze Zef Zeg
attribute [go_sem] Zeh Zei Zh4 Zej Quy Q6d Qzf Q6e Zek Qzg Zel Zem Zen Zeo Zep Zeq
attribute [go_sem] Zer Zes Zet Zeu Q6f Q6g Q6h Q6i Q6j Q6k Q6l Q6m Q6n Q6o Zh5 Zev
attribute [go_sem] Quz Q6p Qzh Q6q Zh6 Zew Qu0 Q6r Qzi Q6s Zh7 Zex Qu1 Q6t Qzj Q6u
attribute [go_sem] Zey Zh8 Zez Qu2 Q6v Qzk Q6w Ze0 Ze1 Q6x Qq4 Qzl Qu3 Qzm Q6y Qu4
attribute [go_sem] Q6z Q60 Q61 Q62 Q63 Q64 Q65 Q66 Q67 Q68 Qzn Qzo Qzp Qzq Qzr Qzs
attribute [go_sem] Qzt Qzu Qzv Qzw
attribute [go_sem] Ze2 Q69 Qq5 Qzx
attribute [go_sem] Qu5 Qzy Q7a Qu6 Q7b Q7c Q7d Q7e Q7f Q7g Q7h Q7i Q7j Q7k Qzz Qz0
attribute [go_sem] Qz1 Qz2 Qz3 Qz4 Qz5 Qz6 Qz7 Qz8 Ze3 Q7l Qq6 Qz9 Qu7 Q0a Q0b Qf1
attribute [go_sem] Q0c Q0d Q0e Ze4 Q7m Qq7 Q0f Qu8 Q0g Qu9 Q7n Q7o Q7p Q7q Ze5 Q7r
attribute [go_sem] Qq8 Q0h Qva Q0i Q7s Ze6 Q7t Qq9 Q0j Qvb Q0k Q7u Qvc Q7v Q7w Q7x
attribute [go_sem] Q7y Q7z Q70 Q71 Q72 Q73 Q74 Q0l Q0m Q0n Q0o Q0p Q0q Q0r Q0s Q0t
attribute [go_sem] Q0u
attribute [go_sem] Ze7 Q75 Qra Q0v Qvd Q0w Q0x Qf2 Q0y Q0z Q00
attribute [go_sem] Ze8
attribute [go_sem] Q76 Qrb Q01 Qve Q02 Q77 Ze9 Q78 Qrc Q03 Qvf Q04 Q79 Qvg Q8a Q8b
attribute [go_sem] Q8c Q8d Q8e Q8f Q8g Q8h Q8i Q8j Q05 Q06 Q07 Q08 Q09 Q1a Q1b Q1c
attribute [go_sem] Q1d Q1e Zfa Q8k Qrd Q1f Qvh Q1g Q8l Qvi Q8m Q8n Q8o Q8p Q8q Q8r
attribute [go_sem] Q8s Q8t Q8u Q8v Q1h Q1i Q1j Q1k Q1l Q1m Q1n Q1o Q1p Q1q
attribute [go_sem] Zfb Q8w Qre Q1r Qvj Q1s Q8x Qvk Q8y Q8z Q80
attribute [go_sem] Q81 Q82 Q83 Q84 Q85 Q86 Q87 Q1t Q1u Q1v Q1w Q1x Q1y Q1z Q10 Q11
attribute [go_sem] Q12 Zfc Q88 Qrf Q13 Qvl Q14 Q89
attribute [go_sem] Zfd Q9a Qrg Q15 Qvm Q16
end Go.Proofs.YtciddhkfbgkejaaGreatDoor

namespace Go.Dg
def digs (B n:Nat):List Nat:=if h:n=0∨B<2 then []else n%B::digs B (n/B)
termination_by n
decreasing_by
 simp only [not_or,Nat.not_lt]at h
 exact Nat.div_lt_self (Nat.pos_of_ne_zero h.1) h.2
def val (B:Nat):List Nat→Nat
 | []=>0
 |d::l=>d+B*val B l
section
variable {B:Nat}
theorem Qa8:digs B 0=[]:=by unfold digs;simp
theorem Qfb (hB:2≤B) {n:Nat} (hn:n≠0):digs B n=n%B::digs B (n/B):=by
 conv=>lhs;unfold digs
 rw [dif_neg]
 simp only [not_or,Nat.not_lt]
 exact⟨hn,hB⟩
theorem Qsi (hB:2≤B) (n:Nat):val B (digs B n)=n:=by
 induction n using Nat.strongRecOn with
 |_ n ih=>
  by_cases hn:n=0
  ·subst hn;rw [Qa8];rfl
  ·rw [Qfb hB hn]
   simp only [val]
   rw [ih _ (Nat.div_lt_self (Nat.pos_of_ne_zero hn) hB)]
   exact Nat.mod_add_div n B
theorem Qmt (hB:2≤B) (n k:Nat):(digs B n)[k]? =if n/B^k=0 then none else some (n/B^k%B):=by
 induction k generalizing n with
 |zero=>
  by_cases hn:n=0
  ·subst hn;simp [Qa8]
  ·rw [Qfb hB hn];simp [hn]
 |succ k ih=>
  by_cases hn:n=0
  ·subst hn;simp [Qa8]
  ·rw [Qfb hB hn,List.getElem?_cons_succ,ih]
   have:n/B/B^k=n/B^(k+1):=by rw [Nat.div_div_eq_div_mul,Nat.pow_succ,Nat.mul_comm]
   rw [this]
theorem Qcr (hB:2≤B) (n k:Nat):k<(digs B n).length↔n/B^k≠0:=by
 have:=Qmt hB n k
 constructor
 ·intro h hz
  rw [if_pos hz,List.getElem?_eq_none_iff]at this
  omega
 ·intro h
  rw [if_neg h]at this
  exact(List.getElem?_eq_some_iff.1 this).1
theorem Qar (hB:2≤B) (n k:Nat):(digs B n).length≤k↔n<B^k:=by
 have h:=Qcr hB n k
 have hp:0<B^k:=Nat.pow_pos (by omega)
 rw [←Nat.not_lt,h,Decidable.not_not,Nat.div_eq_zero_iff]
 omega
theorem Qa5 (hB:2≤B) (n:Nat):n<B^(digs B n).length:=(Qar hB n _).1 (Nat.le_refl _)
theorem Qas (hB:2≤B) {n k:Nat} (h:k<(digs B n).length):(digs B n)[k]? =some (n/B^k%B):=by
 rw [Qmt hB,if_neg ((Qcr hB n k).1 h)]
theorem Qql (hB:2≤B) {n d:Nat} (h:d∈digs B n):d<B:=by
 obtain⟨k,hk⟩:=List.mem_iff_getElem?.1 h
 rw [Qmt hB]at hk
 split at hk
 ·cases hk
 ·cases hk;exact Nat.mod_lt _ (by omega)
theorem Qb7 (hB:2≤B) {n k:Nat} (h:(digs B n).length≤k):n/B^k=0:=by
 have:=(Qar hB n k).1 h
 exact Nat.div_eq_of_lt this
theorem Qbc (hB:2≤B) {n:Nat}:digs B n=[]↔n=0:=by
 constructor
 ·intro h;have:=Qsi hB n;rw [h]at this;exact this.symm
 ·rintro rfl;exact Qa8
def lows (B n i:Nat):List Nat:=(List.range i).map fun k=>n/B^k%B
theorem Qah (n i:Nat):(lows B n i).length=i:=by simp [lows]
theorem Qbp (n i k:Nat) (h:k<i):(lows B n i)[k]? =some (n/B^k%B):=by simp [lows,h]
theorem Qoh (n i:Nat):lows B n (i+1)=n%B::lows B (n/B) i:=by
 simp only [lows,List.range_succ_eq_map,List.map_cons,Nat.pow_zero,Nat.div_one,List.map_map]
 congr 1
 apply List.map_congr_left
 intro k _
 simp only [Function.comp,Nat.succ_eq_add_one]
 rw [Nat.div_div_eq_div_mul,Nat.pow_succ,Nat.mul_comm]
theorem Q33 (hB:0<B) (n i:Nat):val B (lows B n i)=n%B^i:=by
 induction i generalizing n with
 |zero=>simp [lows,val,Nat.mod_one]
 |succ i ih=>
  rw [Qoh]
  simp only [val]
  rw [ih,Nat.pow_succ,Nat.mul_comm (B^i) B,Nat.mod_mul]
theorem Qgv (hB:2≤B) (n:Nat):lows B n (digs B n).length=digs B n:=by
 apply List.ext_getElem?
 intro k
 by_cases hk:k<(digs B n).length
 ·rw [Qbp _ _ _ hk,Qas hB hk]
 ·rw [List.getElem?_eq_none (by rw [Qah];omega),List.getElem?_eq_none (by omega)]
def Qe5 (l:List Nat):List Nat:=(l.reverse.dropWhile (· ==0)).reverse
theorem Qdv (l:List Nat):Qe5 (l++[0])=Qe5 l:=by simp [Qe5]
theorem Qh1 (l:List Nat) {d:Nat} (h:d≠0):Qe5 (l++[d])=l++[d]:=by simp [Qe5,h]
theorem Qwz:Qe5 []=[]:=rfl
theorem Qls (l m:List Nat):val B (l++m)=val B l+B^l.length*val B m:=by
 induction l with
 |nil=>simp [val]
 |cons d l ih=>
  simp only [List.cons_append,val,ih,List.length_cons,Nat.pow_succ]
  rw [Nat.mul_add,Nat.add_assoc,←Nat.mul_assoc,Nat.mul_comm B (B^l.length)]
theorem Zgi (hB:0<B) {l:List Nat} (h: ∀d∈l,d<B):val B l<B^l.length:=by
 induction l with
 |nil=>simp [val]
 |cons d l ih=>
  have h1:=ih fun x hx=>h x (by simp [hx])
  have h2:=h d (by simp)
  simp only [val,List.length_cons,Nat.pow_succ]
  have:B*val B l+B≤B*B^l.length:=by rw [←Nat.mul_succ];exact Nat.mul_le_mul_left _ h1
  rw [Nat.mul_comm (B^l.length)]
  omega
theorem Q34 (hB:2≤B) {l:List Nat} (h: ∀d∈l,d<B):lows B (val B l) l.length=l:=by
 induction l with
 |nil=>rfl
 |cons d l ih=>
  have h2:=h d (by simp)
  rw [List.length_cons,Qoh]
  simp only [val]
  rw [Nat.add_mul_mod_self_left,Nat.mod_eq_of_lt h2,Nat.add_mul_div_left _ _ (by omega),Nat.div_eq_of_lt h2,Nat.zero_add,ih fun x hx=>h x (by simp [hx])]
theorem Qsj (hB:2≤B) (l:List Nat) (h: ∀d∈l,d<B):Qe5 l=digs B (val B l):=by
 have key: ∀n,∀l:List Nat,l.length=n→(∀d∈l,d<B)→Qe5 l=digs B (val B l):=by
  intro n
  induction n with
  |zero=>intro l hl _;rw [List.length_eq_zero_iff.1 hl];simp [Qwz,val,Qa8]
  |succ n ih=>
   intro l hl h
   have hne:l≠ []:=by rintro rfl;simp at hl
   have hcut:=List.dropLast_concat_getLast hne
   generalize l.dropLast=m at hcut
   generalize l.getLast hne=d at hcut
   subst hcut
   have hm:m.length=n:=by simpa using hl
   have hmd: ∀x∈m,x<B:=fun x hx=>h x (by simp [hx])
   by_cases hd:d=0
   ·subst hd
    rw [Qdv,ih m hm hmd,Qls]
    simp [val]
   ·rw [Qh1 m hd]
    have hlen:(digs B (val B (m++[d]))).length=(m++[d]).length:=by
     apply Nat.le_antisymm
     ·exact(Qar hB _ _).2 (Zgi (by omega) h)
     ·have:(m++[d]).length=m.length+1:=by simp
      rw [this]
      apply (Qcr hB _ _).2
      rw [Qls]
      simp only [val,Nat.mul_zero,Nat.add_zero]
      rw [Nat.add_mul_div_left _ _ (Nat.pow_pos (by omega))]
      exact fun e=>hd (Nat.eq_zero_of_add_eq_zero_left e)
    have:=Qgv hB (val B (m++[d]))
    rw [hlen,Q34 hB h]at this
    exact this
 exact key l.length l rfl h
theorem Qby (hB:2≤B) (n i:Nat):Qe5 (lows B n i)=digs B (n%B^i):=by
 rw [Qsj hB,Q33 (by omega)]
 intro d hd
 simp only [lows,List.mem_map]at hd
 obtain⟨k,_,rfl⟩:=hd
 exact Nat.mod_lt _ (by omega)
end
end Go.Dg

namespace Go.Proofs.YtciddhkfbgkejaaGreatDoor
open Go.Vl Go.RowKit Go.Dg
theorem wrapn {n:Nat} (h:n<9223372036854775808):IntKind.i64.wrap (n:Int)=n:=Qai (by omega) (by omega)
theorem Qff {n:Nat} (h:n<9223372036854775808):IntKind.i64.wrap (((n+1:Nat):Int)-1)=(n:Int):=by
 rw [Qai (by omega) (by omega)];omega
theorem Qg2:maxLen<9223372036854775808:=by simp [maxLen]
end Go.Proofs.YtciddhkfbgkejaaGreatDoor

namespace Go.Dg
section
variable {B:Nat}
def carry (B a b i:Nat):Nat:=(a%B^i+b%B^i)/B^i
theorem Qlu (a b:Nat):carry B a b 0=0:=by simp [carry,Nat.mod_one]
theorem Qso (hB:0<B) (a b i:Nat):carry B a b i≤1:=by
 have hp:0<B^i:=Nat.pow_pos hB
 have h1:=Nat.mod_lt a hp
 have h2:=Nat.mod_lt b hp
 unfold carry
 rw [Nat.div_le_iff_le_mul hp]
 omega
theorem Qsp (hB:0<B) (a b i:Nat):(a/B^i%B+b/B^i%B+carry B a b i)%B=(a+b)/B^i%B∧(a/B^i%B+b/B^i%B+carry B a b i)/B=carry B a b (i+1):=by
 have hp:0<B^i:=Nat.pow_pos hB
 unfold carry
 generalize hP:B^i=P at*
 have e1:(a+b)/P=a/P+b/P+(a%P+b%P)/P:=by
  conv=>lhs;rw [←Nat.div_add_mod a P,←Nat.div_add_mod b P]
  have:P*(a/P)+a%P+(P*(b/P)+b%P)=(a%P+b%P)+P*(a/P+b/P):=by rw [Nat.mul_add];omega
  rw [this,Nat.add_mul_div_left _ _ hp]
  omega
 constructor
 ·rw [e1]
  conv=>rhs;rw [Nat.add_mod,Nat.add_mod (a/P)]
  conv=>lhs;rw [Nat.add_mod,Nat.add_mod (a/P%B)]
  simp
 ·have hP1:B^(i+1)=P*B:=by rw [Nat.pow_succ,hP]
  rw [hP1,Nat.mod_mul,Nat.mod_mul]
  have:a%P+P*(a/P%B)+(b%P+P*(b/P%B))=(a%P+b%P)+P*(a/P%B+b/P%B):=by rw [Nat.mul_add];omega
  rw [this,←Nat.div_div_eq_div_mul,Nat.add_mul_div_left _ _ hp]
  congr 1
  omega
theorem Qw2 (hB:2≤B) {n i:Nat} (h1:n<B^i) (h2: ∀j,j<i→n/B^j≠0):lows B n i=digs B n:=by
 have hl:(digs B n).length=i:=by
  apply Nat.le_antisymm ((Qar hB n i).2 h1)
  rcases Nat.eq_zero_or_pos i with rfl|hi
  ·exact Nat.zero_le _
  ·have:=(Qcr hB n (i-1)).2 (h2 (i-1) (by omega))
   omega
 rw [←hl,Qgv hB]
end
end Go.Dg

namespace Go.Proofs.YtciddhkfbgkejaaGreatDoor
open Go.Vl Go.RowKit Go.Dg
theorem Qfz {a b:Nat} (h:a+b<9223372036854775808):IntKind.i64.wrap ((a:Int)+(b:Int))=((a+b:Nat):Int):=by
 rw [Qai (by omega) (by omega)];omega
theorem Qak {a:Nat} (h:a+1<9223372036854775808):IntKind.i64.wrap ((a:Int)+1)=((a+1:Nat):Int):=by
 rw [Qai (by omega) (by omega)];omega
end Go.Proofs.YtciddhkfbgkejaaGreatDoor

namespace Go.Dg
section
variable {B:Nat}
def cmpN (a b:Nat):Int:=if a<b then -1 else if b<a then 1 else 0
theorem Zbe {a b:Nat} (h:a<b):cmpN a b= -1:=by simp [cmpN,h]
theorem Zbf {a b:Nat} (h:b<a):cmpN a b=1:=by simp [cmpN,h];omega
theorem Zbg (a:Nat):cmpN a a=0:=by simp [cmpN]
theorem Zak (hB:2≤B) {a b:Nat} (h:(digs B a).length<(digs B b).length):a<b:=by
 have h1:=Qa5 hB a
 have h2:=(Qcr hB b _).1 h
 have h3:=Nat.div_eq_zero_iff (a:=b) (b:=B^(digs B a).length)
 have:0<B^(digs B a).length:=Nat.pow_pos (by omega)
 omega
theorem Qgw (hB:0<B) (a i:Nat):a/B^i=B*(a/B^(i+1))+a/B^i%B:=by
 rw [Nat.pow_succ,←Nat.div_div_eq_div_mul]
 exact(Nat.div_add_mod _ _).symm
theorem Qoi (hB:0<B) {a b i:Nat} (h:a/B^(i+1)=b/B^(i+1)) (hd:a/B^i%B<b/B^i%B):a<b:=by
 have h1:=Qgw hB a i
 have h2:=Qgw hB b i
 rw [h]at h1
 apply Nat.lt_of_not_le
 intro hle
 have:=Nat.div_le_div_right (c:=B^i) hle
 omega
theorem Qt7 (hB:0<B) {a b i:Nat} (h:a/B^(i+1)=b/B^(i+1)) (hd:a/B^i%B=b/B^i%B):a/B^i=b/B^i:=by
 rw [Qgw hB a i,Qgw hB b i,h,hd]
def bor (B a b i:Nat):Nat:=if a%B^i<b%B^i then 1 else 0
theorem Qsk (a b:Nat):bor B a b 0=0:=by simp [bor,Nat.mod_one]
theorem Qsl (a b i:Nat):bor B a b i≤1:=by unfold bor;split<;>omega
theorem Qw0 (hB:0<B) {a b:Nat} (h:b≤a) (i:Nat):(a-b)/B^i+b/B^i+bor B a b i=a/B^i:=by
 have hp:0<B^i:=Nat.pow_pos hB
 unfold bor
 generalize B^i=P at*
 have ha:=Nat.div_add_mod a P
 have hb:=Nat.div_add_mod b P
 have hm1:=Nat.mod_lt a hp
 have hm2:=Nat.mod_lt b hp
 have hle:b/P≤a/P:=Nat.div_le_div_right h
 generalize a/P=x at*
 generalize b/P=y at*
 generalize a%P=r at*
 generalize b%P=s at*
 obtain⟨z,rfl⟩:=Nat.exists_eq_add_of_le hle
 rw [Nat.mul_add]at ha
 split
 ·rename_i hlt
  have hz:z≠0:=by rintro rfl;rw [Nat.mul_zero]at ha;omega
  obtain⟨z',rfl⟩:=Nat.exists_eq_succ_of_ne_zero hz
  have e:a-b=(P+r-s)+P*z':=by rw [Nat.mul_succ]at ha;omega
  rw [e,Nat.add_mul_div_left _ _ hp,Nat.div_eq_of_lt (by omega)]
  omega
 ·rename_i hlt
  have e:a-b=(r-s)+P*z:=by omega
  rw [e,Nat.add_mul_div_left _ _ hp,Nat.div_eq_of_lt (by omega)]
  omega
theorem Qsm (hB:2≤B) {a b:Nat} (h:b≤a) (i:Nat):
  (a-b)/B^i%B+b/B^i%B+bor B a b i=a/B^i%B+B*bor B a b (i+1):=by
 have hB0:0<B:=by omega
 have h1:=Qw0 hB0 h i
 have h2:=Qw0 hB0 h (i+1)
 have e1:=Qgw hB0 (a-b) i
 have e2:=Qgw hB0 b i
 have e3:=Qgw hB0 a i
 have hm:=Nat.mul_add B ((a-b)/B^(i+1)+b/B^(i+1)) (bor B a b (i+1))
 have hm2:=Nat.mul_add B ((a-b)/B^(i+1)) (b/B^(i+1))
 rw [h2]at hm
 omega
def mix (B V S n m:Nat):List Nat:=(List.range n).map fun j=>if j<m then V/B^j%B else S/B^j%B
theorem Qbd (V S n m:Nat):(mix B V S n m).length=n:=by simp [mix]
theorem Qc1 (V S n m j:Nat) (h:j<n):(mix B V S n m)[j]? =some (if j<m then V/B^j%B else S/B^j%B):=by simp [mix,h]
theorem Qj1 (hB:0<B) {V W m j:Nat} (h:V%B^m=W%B^m) (hj:j<m):V/B^j%B=W/B^j%B:=by
 have key: ∀n,n/B^j%B=(n%B^m)/B^j%B:=by
  intro n
  have e:B^m=B^j*(B*B^(m-j-1)):=by
   rw [←Nat.mul_assoc,←Nat.pow_succ,←Nat.pow_add];congr 1;omega
  rw [e,Nat.mod_mul_right_div_self,Nat.mod_mul_right_mod]
 rw [key V,key W,h]
theorem Qdw (hB:0<B) {V W S n m d:Nat} (hm:m<n) (h:V%B^m=W%B^m) (hd:W/B^m%B=d):(mix B V S n m).set m d=mix B W S n (m+1):=by
 apply List.ext_getElem?
 intro j
 rw [List.getElem?_set]
 by_cases hj:j<n
 ·rw [Qc1 _ _ _ _ _ hj,Qc1 _ _ _ _ _ hj,Qbd]
  by_cases e:m=j
  ·subst e;simp [hj,hd]
  ·simp only [e,if_false]
   by_cases hlt:j<m
   ·rw [if_pos hlt,if_pos (by omega),Qj1 hB h hlt]
   ·rw [if_neg hlt,if_neg (by omega)]
 ·rw [List.getElem?_eq_none (by rw [Qbd];omega),List.getElem?_eq_none (by rw [Qbd];omega),Qbd]
  simp;omega
theorem Qfc {V S n m:Nat} (hB:0<B) (h:V/B^m=S/B^m):mix B V S n m=lows B V n:=by
 apply List.map_congr_left
 intro j _
 split
 ·rfl
 ·rename_i hj
  obtain⟨k,rfl⟩:=Nat.exists_eq_add_of_le (Nat.le_of_not_lt hj)
  rw [Nat.pow_add,←Nat.div_div_eq_div_mul,←Nat.div_div_eq_div_mul,h]
theorem Qje (V S n:Nat):mix B V S n 0=lows B S n:=by simp [mix,lows]
def mulV (B S x i b k:Nat):Nat:=S+x*B^i*(b%B^k)
theorem Qoj (S x i b:Nat):mulV B S x i b 0=S:=by simp [mulV,Nat.mod_one]
theorem Qok (S x i b k:Nat):mulV B S x i b (k+1)=mulV B S x i b k+x*(b/B^k%B)*B^(i+k):=by
 unfold mulV
 rw [Nat.pow_succ,Nat.mod_mul,Nat.mul_add,Nat.pow_add]
 have:x*B^i*(B^k*(b/B^k%B))=x*(b/B^k%B)*(B^i*B^k):=by
  simp only [Nat.mul_assoc,Nat.mul_comm,Nat.mul_left_comm]
 rw [this];omega
def mulC (B S x i b k:Nat):Nat:=mulV B S x i b k/B^(i+k)-S/B^(i+k)
theorem Zbh (S x i b k:Nat):S≤mulV B S x i b k:=Nat.le_add_right _ _
theorem Qmv (S x i b k:Nat):mulC B S x i b k+S/B^(i+k)=mulV B S x i b k/B^(i+k):=by
 have:=Nat.div_le_div_right (c:=B^(i+k)) (Zbh (B:=B) S x i b k)
 unfold mulC
 omega
theorem Qol (S x i b:Nat):mulC B S x i b 0=0:=by simp [mulC,Qoj]
theorem Qsn (hB:0<B) (S x i b k:Nat):
  (S/B^(i+k)%B+mulC B S x i b k+x*(b/B^k%B))%B=mulV B S x i b (k+1)/B^(i+k)%B∧
  (S/B^(i+k)%B+mulC B S x i b k+x*(b/B^k%B))/B=mulC B S x i b (k+1):=by
 have hp:0<B^(i+k):=Nat.pow_pos hB
 have h1:=Qmv (B:=B) S x i b k
 have e1:mulV B S x i b (k+1)/B^(i+k)=(S/B^(i+k)%B+mulC B S x i b k+x*(b/B^k%B))+B*(S/B^(i+k+1)):=by
  rw [Qok,Nat.add_mul_div_right _ _ hp,←h1]
  have:=Qgw hB S (i+k)
  omega
 constructor
 ·rw [e1,Nat.add_mul_mod_self_left]
 ·have h2:=Qmv (B:=B) S x i b (k+1)
  have e2:mulV B S x i b (k+1)/B^(i+(k+1))=mulV B S x i b (k+1)/B^(i+k)/B:=by
   rw [Nat.div_div_eq_div_mul,←Nat.pow_succ];rfl
  rw [e1,Nat.add_mul_div_left _ _ hB]at e2
  have e3:S/B^(i+(k+1))=S/B^(i+k+1):=rfl
  omega
theorem Q35 (S x i b k:Nat):mulV B S x i b k%B^(i+k)=mulV B S x i b (k+1)%B^(i+k):=by
 rw [Qok,Nat.add_mul_mod_self_right]
theorem Qw1 (a i b k:Nat) (hk:b<B^k):mulV B (a%B^i*b) (a/B^i%B) i b k=a%B^(i+1)*b:=by
 unfold mulV
 rw [Nat.mod_eq_of_lt hk,Nat.pow_succ,Nat.mod_mul,Nat.add_mul]
 congr 1
 rw [Nat.mul_comm (a/B^i%B)]
theorem Zbi (hB:0<B) {S x i b k:Nat} (hx:x<B):mulC B S x i b k<B:=by
 induction k with
 |zero=>rw [Qol];exact hB
 |succ k ih=>
  rw [←(Qsn hB S x i b k).2,Nat.div_lt_iff_lt_mul hB]
  have h1:S/B^(i+k)%B<B:=Nat.mod_lt _ hB
  have h2:b/B^k%B<B:=Nat.mod_lt _ hB
  have h3:x*(b/B^k%B)≤(B-1)*(B-1):=Nat.mul_le_mul (by omega) (by omega)
  have h4:B*B=(B-1)*(B-1)+2*(B-1)+1:=by
   obtain⟨c,rfl⟩: ∃c,B=c+1:=⟨B-1,by omega⟩
   simp only [Nat.add_sub_cancel,Nat.add_mul,Nat.mul_add]
   omega
  omega
end
end Go.Dg

namespace Go.Proofs.YtciddhkfbgkejaaGreatDoor
open Go.Vl Go.RowKit Go.Dg
end Go.Proofs.YtciddhkfbgkejaaGreatDoor

namespace Go.Proofs.YtciddhkfbgkejaaGreatDoor
open Go.Vl Go.RowKit Go.Dg
end Go.Proofs.YtciddhkfbgkejaaGreatDoor

namespace Go.Proofs.YtciddhkfbgkejaaGreatDoor
open Go.Vl Go.RowKit Go.Dg
end Go.Proofs.YtciddhkfbgkejaaGreatDoor

namespace Go.Vl
open Go.RowKit
theorem Zjg (P:Program) (t:TypeId) (xs ys:List PV):Qbr .eql t P (.agg xs) (.agg ys)=match Qc8 P t with
  |some sh=>match Qba sh xs ys with
   |some b=>some (.bool b)
   |none=>none
  |none=>none:=by
 unfold Qbr
 cases Qc8 P t with
 |none=>rfl
 |some sh=>simp only;cases Qba sh xs ys<;>rfl
theorem Zjh (P:Program) (t:TypeId) (xs ys:List PV):Qbr .neq t P (.agg xs) (.agg ys)=match Qc8 P t with
  |some sh=>match Qba sh xs ys with
   |some b=>some (.bool !b)
   |none=>none
  |none=>none:=by
 unfold Qbr
 cases Qc8 P t with
 |none=>rfl
 |some sh=>simp only;cases Qba sh xs ys<;>rfl
attribute [go_sem] Zjg Zjh
end Go.Vl

namespace Go.Proofs.YtciddhkfbgkejaaGreatDoor
open Go.Vl Go.RowKit Go.Dg
end Go.Proofs.YtciddhkfbgkejaaGreatDoor

namespace Go.Vl
open Go.RowKit
theorem Zba (P:Program) (p:Nat×List (Nat×Nat)×List (Nat×Nat)) (tb:Tab) (id:Nat) (bx:Bx) (fo:Operand) (as0:Array Operand) (ts:Array TypeId) (f:FuncId) (first cap args:List PV):Qaz P (p::tb) id (.call ⟨.value fo,as0,ts⟩) (.fn f first cap::args) bx=
  (match lkp (p::tb) id with
   |none=>M.bind (Qev first) (fun x=> .bind (Qfl args) fun y=> .bind (Qev cap) fun z=> .pure (.call f (x.1++y.1++z.1) (x.2++y.2++z.2))) bx
   |some t=>Qc7 t.1 t.2 f (first++args++cap) bx):=by
 cases h:lkp (p::tb) id with
 |none=>rw [Za7 (h:=h)]
 |some t=>obtain⟨θ,ν⟩:=t;rw [Za8 (h:=h)]
theorem ble6:Nat.ble 1000000 1000000=true:=rfl
theorem Zjn:Nat.ble 1000000 1000001=true:=rfl
attribute [go_sem] Zba ble6 Zjn
theorem Zjo (P:Program) (t:TypeId) (x y:ByteArray):Qbr .eql t P (.str x) (.str y)=some (.bool (x.data.toList==y.data.toList)):=by
 rw [Zfz,←Go.ByteArray.toList_eq x,←Go.ByteArray.toList_eq y];rfl
theorem Zjp (P:Program) (t:TypeId) (x y:ByteArray):Qbr .neq t P (.str x) (.str y)=some (.bool !(x.data.toList==y.data.toList)):=by
 rw [Zfz,←Go.ByteArray.toList_eq x,←Go.ByteArray.toList_eq y];rfl
attribute [go_sem high] Zjo Zjp
def bnum (l:List UInt8):Nat:=l.foldl (fun n b=>n*256+b.toNat) 0
theorem Qjw (l:List UInt8) (b:UInt8):bnum (l++[b])=bnum l*256+b.toNat:=by simp [bnum]
theorem Qqh: ∀(n:Nat) (l:List UInt8),l.length=n→bnum l<256^n
 |0,l,h=>by obtain rfl:=List.length_eq_zero_iff.1 h;simp [bnum]
 |n+1,l,h=>by
  have hne:l≠ []:=by intro e;rw [e]at h;simp at h
  have e:=List.dropLast_concat_getLast hne
  have ih:=Qqh n l.dropLast (by simp [h])
  rw [←e,Qjw,Nat.pow_succ]
  have:=(l.getLast hne).toNat_lt
  omega
theorem Qjx (s:ByteArray):s.size=s.data.toList.length:=rfl
theorem Qoe (s:ByteArray) (k:Nat) (h:k<s.data.toList.length):s[k]? =some s.data.toList[k]:=by
 have h':k<s.size:=h
 rw [getElem?_pos s k h']
 rfl
end Go.Vl

namespace Go.Proofs.YtciddhkfbgkejaaGreatDoor
open Go.Vl Go.RowKit Go.Dg
end Go.Proofs.YtciddhkfbgkejaaGreatDoor

namespace Go.Proofs.YtciddhkfbgkejaaGreatDoor
open Go.Vl Go.RowKit Go.Dg
end Go.Proofs.YtciddhkfbgkejaaGreatDoor

namespace Go.Dg
variable {B:Nat}
theorem Qst {V S N i d:Nat} (hi:i<N) (hd:S/B^i%B=d):(mix B V S N (i+1)).set i d=mix B V S N i:=by
 apply List.ext_getElem?
 intro j
 rw [List.getElem?_set]
 by_cases hj:j<N
 ·rw [Qc1 _ _ _ _ _ hj,Qc1 _ _ _ _ _ hj,Qbd]
  by_cases e:i=j
  ·subst e;simp [hj,hd]
  ·simp only [e,if_false]
   by_cases hlt:j<i
   ·rw [if_pos (by omega),if_pos hlt]
   ·rw [if_neg (by omega),if_neg hlt]
 ·rw [List.getElem?_eq_none (by rw [Qbd];omega),List.getElem?_eq_none (by rw [Qbd];omega),Qbd]
  simp;omega
theorem Qxp (v N n:Nat) (h:n≤N):(lows B v N).take n=lows B v n:=by
 apply List.ext_getElem?
 intro j
 by_cases hj:j<n
 ·rw [List.getElem?_take_of_lt hj,Qbp _ _ _ (by omega),Qbp _ _ _ hj]
 ·rw [List.getElem?_eq_none (by rw [List.length_take,Qah];omega),List.getElem?_eq_none (by rw [Qah];omega)]
end Go.Dg

namespace Go.Proofs.YtciddhkfbgkejaaGreatDoor
open Go.Vl Go.RowKit Go.Dg
abbrev f8:Nat→PV:=fun d:Nat=>PV.int .u8 (d:Int)
def magL (n:Nat):List UInt8:=(digs 256 n).reverse.map fun d=>UInt8.ofNat d
def wPV (n:Int):PV:= .agg [.bool (decide (n<0)),.str ⟨(magL n.natAbs).toArray⟩]
theorem Que (l:List Nat):Qdk (l.map f8)=some (l.map fun d=>UInt8.ofNat d):=by
 induction l with
 |nil=>rfl
 |cons d l ih=>simp only [List.map_cons,Qdk,ih];rfl
theorem Qfg {n:Nat} (h:n<256):IntKind.u8.wrap (n:Int)=(n:Int):=by
 simp [IntKind.wrap,IntKind.signed,IntKind.bits];omega
end Go.Proofs.YtciddhkfbgkejaaGreatDoor

namespace Go.Dg
variable {B:Nat}

def blen (m:Nat):Nat:=if h:m=0 then 0 else blen (m/2)+1
termination_by m
decreasing_by exact Nat.div_lt_self (Nat.pos_of_ne_zero h) (by decide)
theorem Qe9:blen 0=0:=by unfold blen;simp
theorem Qfa {m:Nat} (h:m≠0):blen m=blen (m/2)+1:=by
  conv=>lhs;unfold blen
  simp [h]
theorem Qdm: ∀(k m:Nat),m/2^k≠0→blen m=blen (m/2^k)+k
  |0,m,_=>by simp
  |k+1,m,h=>by
    have e:m/2^(k+1)=m/2/2^k:=by rw [Nat.div_div_eq_div_mul,Nat.pow_succ,Nat.mul_comm]
    have hm:m≠0:=by intro h0;rw [h0]at h;simp at h
    rw [Qfa hm,e,Qdm k (m/2) (by rw [←e];exact h)]
    omega
theorem Qdh: ∀(k m:Nat),m<2^k→blen m≤k
  |0,m,h=>by
        obtain rfl:m=0:=by simpa using h
        rw [Qe9];exact Nat.le_refl _
  |k+1,m,h=>by
    by_cases h0:m=0
    · rw [h0,Qe9];omega
    · rw [Qfa h0]
      have:=Qdh k (m/2) (by rw [Nat.pow_succ]at h;omega)
      omega
theorem Qjy: ∀(k m:Nat),2^k≤m→k<blen m
  |0,m,h=>by
    have h0:m≠0:=by intro e;rw [e]at h;simp at h
    rw [Qfa h0];omega
  |k+1,m,h=>by
    have h0:m≠0:=by intro e;rw [e]at h;have:=Nat.pow_pos (n:=k+1) (show 0<2 by decide);omega
    rw [Qfa h0]
    have:=Qjy k (m/2) (by rw [Nat.pow_succ]at h;omega)
    omega
/-- The highest digit. -/
theorem Qdb (hB:2≤B) {m:Nat} (h:m≠0):m/B^((digs B m).length-1)≠0∧m/B^((digs B m).length-1)<B:=by
  have hp:0<(digs B m).length:=List.length_pos_iff.2 (mt (Qbc hB).1 h)
  refine⟨(Qcr hB m _).1 (by omega),?_⟩
  have:=Qa5 hB m
  have e:B^(digs B m).length=B^((digs B m).length-1)*B:=by rw [←Nat.pow_succ];congr 1;omega
  rw [e]at this
  exact Nat.div_lt_of_lt_mul this
theorem Qsf {m:Nat} (h:m≠0) (c:Nat) (hc:0<c):blen m=blen (m/(2^c)^((digs (2^c) m).length-1))+c*((digs (2^c) m).length-1):=by
  have hB:2≤2^c:=by
    have:=Nat.pow_le_pow_right (show 0<2 by decide) hc
    simpa using this
  have:=Qdb hB h
  rw [←Nat.pow_mul]at this ⊢
  exact Qdm _ _ this.1
end Go.Dg

namespace Go.Proofs.YtciddhkfbgkejaaGreatDoor
open Go.Vl Go.RowKit Go.Dg
theorem Qc3 (m:Nat):(magL m).length=(digs 256 m).length:=by simp [magL]
theorem Qxz (m:Nat):(⟨(magL m).toArray⟩:ByteArray).size=(digs 256 m).length:=by rw [Qjx,←Qc3]
theorem Q4g {m:Nat} (h:m≠0): ∃d:UInt8,(⟨(magL m).toArray⟩:ByteArray)[0]? =some d∧d.toNat=m/256^((digs 256 m).length-1):=by
 have hp:0<(digs 256 m).length:=List.length_pos_iff.2 (mt (Qbc (by decide)).1 h)
 have ht:=Qdb (B:=256) (by decide) h
 have hg:=Qas (B:=256) (n:=m) (k:=(digs 256 m).length-1) (by decide) (by omega)
 rw [Nat.mod_eq_of_lt ht.2]at hg
 have hl:0<(⟨(magL m).toArray⟩:ByteArray).data.toList.length:=by show 0<(magL m).length;rw [Qc3];exact hp
 refine⟨_,Qoe _ 0 hl,?_⟩
 have e:(⟨(magL m).toArray⟩:ByteArray).data.toList[0]=UInt8.ofNat (m/256^((digs 256 m).length-1)):=by
  show(magL m)[0]'(by rw [Qc3];exact hp)=_
  have:(magL m)[0]? =some (UInt8.ofNat (m/256^((digs 256 m).length-1))):=by
   rw [magL,List.getElem?_map,List.getElem?_reverse (by omega),Nat.sub_zero,hg];rfl
  exact Option.some.inj (by rw [←this,List.getElem?_eq_getElem])
 rw [e,UInt8.toNat_ofNat_of_lt' ht.2]
def Qgn (n:Int):PV:=if 65536<blen n.natAbs then .tup [wPV 0,.int .i64 7]else .tup [wPV n,.int .i64 0]
theorem Q4h:wPV 0= .agg [.bool false,.str ⟨#[]⟩]:=by simp [wPV,magL,Qa8]
end Go.Proofs.YtciddhkfbgkejaaGreatDoor

namespace Go.Vl
open Go.RowKit
theorem Qc6 (n:Nat):IntKind.u64.wrap (n:Int)=((n%18446744073709551616:Nat):Int):=by
 simp [IntKind.wrap,IntKind.signed,IntKind.bits]
theorem Qgt (n:Nat):(n:Int).fdiv (2^min 32 64)=((n/4294967296:Nat):Int):=by
 rw [Int.fdiv_eq_ediv_of_nonneg _ (by decide)]
 rfl
theorem Zgf (n:Nat):IntKind.u64.wrap ((BitVec.ofInt 64 (n:Int) &&& BitVec.ofInt 64 4294967295).toNat:Int)=((n%4294967296:Nat):Int):=by
 rw [Qc6]
 congr 1
 rw [BitVec.toNat_and]
 have h1:(BitVec.ofInt 64 (n:Int)).toNat=n%18446744073709551616:=by simp
 have h2:(BitVec.ofInt 64 4294967295).toNat=2^32-1:=by decide
 rw [h1,h2,Nat.and_two_pow_sub_one_eq_mod]
 omega
theorem Zaj {P:Program} {t:TypeId} (n:Nat):Qbr .and t P (.int .u64 (n:Int)) (.int .u64 4294967295)=some (.int .u64 ((n%4294967296:Nat):Int)):=by
 rw [Zi4]
 exact congrArg (fun z=>some (PV.int .u64 z)) (Zgf n)
attribute [go_sem high] Zaj
theorem Zjm {x y:Nat} (hx:x<18446744073709551616) (hy:y<18446744073709551616):
  ((x/4294967296*(y/4294967296)%18446744073709551616+(x/4294967296*(y%4294967296)%18446744073709551616+(x%4294967296*(y%4294967296)%18446744073709551616)/4294967296)%18446744073709551616/4294967296)%18446744073709551616+
   ((x/4294967296*(y%4294967296)%18446744073709551616+(x%4294967296*(y%4294967296)%18446744073709551616)/4294967296)%18446744073709551616%4294967296+x%4294967296*(y/4294967296)%18446744073709551616)%18446744073709551616/4294967296)%18446744073709551616=x*y/18446744073709551616:=by
 have a1:x/4294967296≤4294967295:=by omega
 have a0:x%4294967296≤4294967295:=by omega
 have b1:y/4294967296≤4294967295:=by omega
 have b0:y%4294967296≤4294967295:=by omega
 have ex:x=x/4294967296*4294967296+x%4294967296:=by omega
 have ey:y=y/4294967296*4294967296+y%4294967296:=by omega
 have hxy:x*y=x/4294967296*(y/4294967296)*18446744073709551616+(x/4294967296*(y%4294967296)+x%4294967296*(y/4294967296))*4294967296+x%4294967296*(y%4294967296):=by
  generalize x/4294967296=p at*
  generalize x%4294967296=q at*
  generalize y/4294967296=r at*
  generalize y%4294967296=s at*
  subst ex ey
  simp only [Nat.add_mul,Nat.mul_add]
  rw [show p*4294967296*(r*4294967296)=p*r*18446744073709551616 by rw [Nat.mul_mul_mul_comm]]
  rw [show p*4294967296*s=p*s*4294967296 by rw [Nat.mul_right_comm],show q*(r*4294967296)=q*r*4294967296 by rw [Nat.mul_assoc]]
  omega
 have hlt:x*y≤18446744073709551615*18446744073709551615:=Nat.mul_le_mul (by omega) (by omega)
 have h11:=Nat.mul_le_mul a1 b1
 have h10:=Nat.mul_le_mul a1 b0
 have h01:=Nat.mul_le_mul a0 b1
 have h00:=Nat.mul_le_mul a0 b0
 rw [hxy]at hlt ⊢
 generalize x/4294967296*(y/4294967296)=P at*
 generalize x/4294967296*(y%4294967296)=Q at*
 generalize x%4294967296*(y/4294967296)=R at*
 generalize x%4294967296*(y%4294967296)=W at*
 clear hxy ex ey a1 a0 b1 b0
 omega
end Go.Vl

namespace Go.Proofs.YtciddhkfbgkejaaGreatDoor
open Go.Vl Go.RowKit
theorem Qpa {w:World} {im:Im} {k1 k2 k3:IntKind} {x y z:Int} {us:List Value} (h:RepL w im [.int k1 x,.int k2 y,.int k3 z] us):us=[.int k1 x,.int k2 y,.int k3 z]:=by
 cases h with
 |cons _ u _ us h t=>
 cases h
 cases t with
 |cons _ u _ us h t=>
 cases h
 cases t with
 |cons _ u _ us h t=>
 cases h
 cases t
 rfl
theorem Qnf (x y c:Nat) (hc:c≤1):Qag Tryz.prog 216 [.int .u64 (x:Int),.int .u64 (y:Int),.int .u64 (c:Int)] (.tup [.int .u64 (((x+y+c)%18446744073709551616:Nat):Int),.int .u64 (((x+y+c)/18446744073709551616:Nat):Int)]):=by
 refine .inr ⟨by kernel_rfl,rfl,fun w im us hr=> ?_⟩
 rw [Qpa hr]
 refine⟨.tuple #[.int .u64 (((x+y+c)%18446744073709551616:Nat):Int),.int .u64 (((x+y+c)/18446744073709551616:Nat):Int)],?_,.tup _ [_,_] (.cons _ _ _ _ (.int _ _) (.cons _ _ _ _ (.int _ _) .nil))⟩
 rw [run_callFunc_extern Tryz.func216 (by kernel_rfl) (by kernel_rfl) (by kernel_rfl) (e:=add64Entry) (by kernel_rfl),run_add64 x y c (by omega) (by omega) (by omega) (by omega)]
 simp only [Result.andThen]
 congr 5<;>omega
theorem Q17 (x y b:Nat) (hb:b≤1):Qag Tryz.prog 217 [.int .u64 (x:Int),.int .u64 (y:Int),.int .u64 (b:Int)] (.tup [.int .u64 (((x+18446744073709551616-y-b)%18446744073709551616:Nat):Int),.int .u64 ((if x<y+b then 1 else 0:Nat):Int)]):=by
 refine .inr ⟨by kernel_rfl,rfl,fun w im us hr=> ?_⟩
 rw [Qpa hr]
 refine⟨.tuple #[.int .u64 (((x+18446744073709551616-y-b)%18446744073709551616:Nat):Int),.int .u64 ((if x<y+b then 1 else 0:Nat):Int)],?_,.tup _ [_,_] (.cons _ _ _ _ (.int _ _) (.cons _ _ _ _ (.int _ _) .nil))⟩
 rw [run_callFunc_extern Tryz.func217 (by kernel_rfl) (by kernel_rfl) (by kernel_rfl) (e:=sub64Entry) (by kernel_rfl),run_sub64 x y b hb]
 rfl
end Go.Proofs.YtciddhkfbgkejaaGreatDoor

namespace Go.Proofs.YtciddhkfbgkejaaGreatDoor
open Go.Vl Go.RowKit Go.Dg
abbrev BW:Nat:=18446744073709551616
theorem BW_2:2≤BW:=by decide
abbrev fW:Nat→PV:=fun d:Nat=>PV.int .u64 (d:Int)
def dw (l:List Nat):PV:= .slc (l.map fun d:Nat=>PV.int .u64 (d:Int))
theorem Qb4 (l:List Nat) (k:Nat):(l.map fun d:Nat=>PV.int .u64 (d:Int))[k]? =l[k]?.map fun d:Nat=>PV.int .u64 (d:Int):=List.getElem?_map
theorem Za2 (l:List Nat):((l.map fun d:Nat=>PV.int .u64 (d:Int)).all fun x=>x.cells.length==1)=true:=by rw [List.all_map,List.all_eq_true];intro d _;rfl
theorem Qcw (l:List Nat) (hl:l.length≤maxLen):Qag Tryz.prog 147 [dw l] (dw (Qe5 l)):=by
 have hm:=Qg2
 refine Qad (tb:=[]) 21 [.tmp 2] [0,2,14] mixed Tryz.func147 rfl (by kernel_rfl) (by kernel_rfl) (by kernel_rfl) (by kernel_rfl) ?_
 simp -implicitDefEqProofs only [go_sem,Nat.reduceMul,Nat.reduceEqDiff,Nat.reduceLT,Nat.reduceLeDiff,reduceCtorEq,dw]
 refine Qa0 mixed (fun k:{k:Nat // k≤l.length∧Qe5 (l.take k)=Qe5 l}=>St.of [(0,dw (l.take k.1)),(2,.nilS)] []) (fun k=>k.1) ⟨l.length,Nat.le_refl _,by rw [List.take_length]⟩ ?_ ?_
 ·exact Qax (by simp [Qae,lkp,ren1,ren0,dw])
 ·rintro⟨k,hk,ht⟩
  have hlen:(l.take k).length=k:=by simp;omega
  cases k with
  |zero=>
   have h1:((0:Int)<((0:Nat):Int))=False:=by simp
   simp -implicitDefEqProofs only [go_sem,Nat.reduceAdd,Nat.reduceMul,Nat.reduceEqDiff,Nat.reduceLT,Nat.reduceLeDiff,reduceCtorEq,dw,List.length_map,hlen,h1]
   rw [←ht];rfl
  |succ k=>
   have h1:((0:Int)<((k+1:Nat):Int))=True:=by simp
   have h2:(0≤(k:Int))=True:=by simp
   have hw:=Qff (n:=k) (by omega)
   have hlt:k<l.length:=by omega
   have hget:(l.take (k+1))[k]? =some l[k]:=by simp [hlt]
   have hcut:l.take (k+1)=l.take k++[l[k]]:=by rw [List.take_add_one];simp [hlt]
   cases hd:((l[k]:Int)==0)with
   |true=>
    have hd0:l[k]=0:=by simpa using hd
    have h3:((k:Int)≤((k+1:Nat):Int))=True:=by simp;omega
    simp -implicitDefEqProofs only [go_sem,Nat.reduceAdd,Nat.reduceMul,Nat.reduceEqDiff,Nat.reduceLT,Nat.reduceLeDiff,reduceCtorEq,dw,List.length_map,hlen,h1,h2,hw,Qb4,hget,hd,h3,Int.toNat_natCast,Za2]
    refine⟨⟨k,by omega,?_⟩,by simp,?_⟩
    ·rw [←ht,hcut,hd0,Qdv]
    ·refine Qax (by simp [Qae,lkp,ren1,ren0,dw];rw [←List.map_take];simp [List.take_take])
   |false=>
    have hd0:l[k]≠0:=by simpa using hd
    simp -implicitDefEqProofs only [go_sem,Nat.reduceAdd,Nat.reduceMul,Nat.reduceEqDiff,Nat.reduceLT,Nat.reduceLeDiff,reduceCtorEq,dw,List.length_map,hlen,h1,h2,hw,Qb4,hget,hd,Int.toNat_natCast]
    rw [←ht,hcut,Qh1 _ hd0]
def cmpW (a b:Nat):Int:=if(digs BW a).length=(digs BW b).length then cmpN a b else((digs BW a).length:Int)-((digs BW b).length:Int)
theorem Qdo (a b:Nat):(cmpW a b<0)↔a<b:=by
 unfold cmpW
 split
 ·unfold cmpN;split
  ·simp;assumption
  ·split<;>simp<;>omega
 ·rename_i h
  constructor
  ·intro h2;exact Zak BW_2 (by omega)
  ·intro h2
   rcases Nat.lt_trichotomy (digs BW a).length (digs BW b).length with h3|h3|h3
   ·omega
   ·exact absurd h3 h
   ·have:=Zak BW_2 h3;omega
theorem Qc4 (a b:Nat) (ha:(digs BW a).length≤1000000000) (hb:(digs BW b).length≤1000000000):Qag Tryz.prog 194 [dw (digs BW a),dw (digs BW b)] (.int .i64 (cmpW a b)):=by
 refine Qad (tb:=[]) 43 [.tmp 4] [0,1,4,5,10,20,23,33] mixed Tryz.func194 rfl (by kernel_rfl) (by kernel_rfl) (by kernel_rfl) (by kernel_rfl) ?_
 by_cases hl:(digs BW a).length=(digs BW b).length
 ·have hl':(((digs BW a).length:Int) != ((digs BW b).length:Int))=false:=by simp [hl]
  have hw:IntKind.i64.wrap (((digs BW a).length:Int)-1)=((digs BW a).length:Int)-1:=Qai (by omega) (by omega)
  rw [cmpW,if_pos hl]
  simp -implicitDefEqProofs only [go_sem,Nat.reduceAdd,Nat.reduceMul,Nat.reduceEqDiff,Nat.reduceLT,Nat.reduceLeDiff,reduceCtorEq,Int.reduceNeg,dw,List.length_map,hl',hw]
  refine Qa0 mixed (fun i:{i:Nat // i≤(digs BW a).length∧a/BW^i=b/BW^i}=>St.of [(0,dw (digs BW a)),(1,dw (digs BW b)),(4,.int .i64 0),(5,.int .i64 ((i.1:Int)-1))] []) (fun i=>i.1)
   ⟨(digs BW a).length,Nat.le_refl _,by rw [Qb7 BW_2 (Nat.le_refl _),hl,Qb7 BW_2 (Nat.le_refl _)]⟩ ?_ ?_
  ·exact Qax (by simp [Qae,lkp,ren1,ren0,dw])
  ·rintro⟨i,hi,he⟩
   cases i with
   |zero=>
    have h1:((0:Int)≤((0:Nat):Int)-1)=False:=by simp
    have hab:a=b:=by simpa using he
    subst hab
    simp -implicitDefEqProofs only [go_sem,Nat.reduceAdd,Nat.reduceMul,Nat.reduceEqDiff,Nat.reduceLT,Nat.reduceLeDiff,reduceCtorEq,Int.reduceNeg,dw,h1,Zbg]
   |succ i=>
    have hs:(((i+1:Nat):Int)-1)=(i:Int):=by omega
    have h1:((0:Int)≤(i:Int))=True:=by simp
    have hga:=Qas BW_2 (show i<(digs BW a).length by omega)
    have hgb:=Qas BW_2 (show i<(digs BW b).length by omega)
    by_cases hlt:a/BW^i%BW<b/BW^i%BW
    ·have h2:(((a/BW^i%BW:Nat):Int)<((b/BW^i%BW:Nat):Int))=True:=by simp only [eq_iff_iff,iff_true];omega
     have hc:=Zbe (Qoi (by decide) he hlt)
     simp -implicitDefEqProofs only [go_sem,Nat.reduceAdd,Nat.reduceMul,Nat.reduceEqDiff,Nat.reduceLT,Nat.reduceLeDiff,reduceCtorEq,Int.reduceNeg,dw,hs,h1,Qb4,hga,hgb,h2,hc]
     exact Qaa _ _ (by kernel_rfl)
    ·have h2:(((a/BW^i%BW:Nat):Int)<((b/BW^i%BW:Nat):Int))=False:=by simp only [eq_iff_iff,iff_false];omega
     by_cases hgt:b/BW^i%BW<a/BW^i%BW
     ·have h3:(((b/BW^i%BW:Nat):Int)<((a/BW^i%BW:Nat):Int))=True:=by simp only [eq_iff_iff,iff_true];omega
      have hc:=Zbf (Qoi (by decide) he.symm hgt)
      simp -implicitDefEqProofs only [go_sem,Nat.reduceAdd,Nat.reduceMul,Nat.reduceEqDiff,Nat.reduceLT,Nat.reduceLeDiff,reduceCtorEq,Int.reduceNeg,dw,hs,h1,Qb4,hga,hgb,h2,h3,hc]
      exact⟨Qaa _ _ (by kernel_rfl),Qaa _ _ (by kernel_rfl)⟩
     ·have h3:(((b/BW^i%BW:Nat):Int)<((a/BW^i%BW:Nat):Int))=False:=by simp only [eq_iff_iff,iff_false];omega
      have hw2:IntKind.i64.wrap ((i:Int)-1)=(i:Int)-1:=Qai (by omega) (by omega)
      simp -implicitDefEqProofs only [go_sem,Nat.reduceAdd,Nat.reduceMul,Nat.reduceEqDiff,Nat.reduceLT,Nat.reduceLeDiff,reduceCtorEq,Int.reduceNeg,dw,hs,h1,Qb4,hga,hgb,h2,h3,hw2]
      refine⟨Qaa _ _ (by kernel_rfl),Qaa _ _ (by kernel_rfl),⟨i,by omega,Qt7 (by decide) he (by omega)⟩,by simp,?_⟩
      exact Qax (by simp [Qae,lkp,ren1,ren0,dw])
 ·have hl':(((digs BW a).length:Int) != ((digs BW b).length:Int))=true:=by simp;omega
  have hw:IntKind.i64.wrap (((digs BW a).length:Int)-((digs BW b).length:Int))=((digs BW a).length:Int)-((digs BW b).length:Int):=Qai (by omega) (by omega)
  rw [cmpW,if_neg hl]
  simp -implicitDefEqProofs only [go_sem,Nat.reduceAdd,Nat.reduceMul,Nat.reduceEqDiff,Nat.reduceLT,Nat.reduceLeDiff,reduceCtorEq,Int.reduceNeg,dw,List.length_map,hl',hw]
end Go.Proofs.YtciddhkfbgkejaaGreatDoor
