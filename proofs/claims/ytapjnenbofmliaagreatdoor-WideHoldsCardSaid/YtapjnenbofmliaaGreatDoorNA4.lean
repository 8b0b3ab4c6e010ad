/-
  NTy, Dg, NA1, Dn, NA2, Dm, NA3, NA4 (merged for the claim).
-/
import Derived.Test.YtapjnenbofmliaaGreatDoorUV
import Derived.Test.YtapjnenbofmliaaGreatDoorProg
set_option linter.unusedSimpArgs false
set_option linter.unusedVariables false
namespace Go.Proofs.YtapjnenbofmliaaGreatDoor
open Go.Vl
theorem mixed:Tryz.prog.follows .mixedOrders=true:=by kernel_rfl
theorem Zeq:tyOk Tryz.prog 2=true:=by kernel_rfl
theorem Zcp:Qbh Tryz.prog 2=false:=by kernel_rfl
theorem Qxf:(Tryz.prog.info? 2).isSome=true:=by kernel_rfl
theorem Q88:Qau Tryz.prog 2=some (1,8):=by kernel_rfl
theorem Q2y:Tryz.prog.cellsOf 2=1:=by kernel_rfl
theorem Q89:Qa5 Tryz.prog 2=some (PV.int IntKind.i64 0):=by kernel_rfl
theorem Zcq:Tryz.prog.underlying 2=some (.int .i64):=by kernel_rfl
theorem Zer:tyOk Tryz.prog 3=true:=by kernel_rfl
theorem Zcr:Qbh Tryz.prog 3=false:=by kernel_rfl
theorem Qxg:(Tryz.prog.info? 3).isSome=true:=by kernel_rfl
theorem Q9a:Qau Tryz.prog 3=some (1,8):=by kernel_rfl
theorem Q2z:Tryz.prog.cellsOf 3=1:=by kernel_rfl
theorem Q9b:Qa5 Tryz.prog 3=some (PV.int IntKind.i64 0):=by kernel_rfl
theorem Zcs:Tryz.prog.underlying 3=some (.int .i64):=by kernel_rfl
theorem Zes:tyOk Tryz.prog 4=true:=by kernel_rfl
theorem Zct:Qbh Tryz.prog 4=false:=by kernel_rfl
theorem Qxh:(Tryz.prog.info? 4).isSome=true:=by kernel_rfl
theorem Q9c:Qau Tryz.prog 4=some (1,1):=by kernel_rfl
theorem Q20:Tryz.prog.cellsOf 4=1:=by kernel_rfl
theorem Q9d:Qa5 Tryz.prog 4=some (PV.bool Bool.false):=by kernel_rfl
theorem Q9e:Tryz.prog.underlying 4=some .bool:=by kernel_rfl
theorem Zet:tyOk Tryz.prog 5=true:=by kernel_rfl
theorem Zcu:Qbh Tryz.prog 5=false:=by kernel_rfl
theorem Qxi:(Tryz.prog.info? 5).isSome=true:=by kernel_rfl
theorem Q9f:Qau Tryz.prog 5=some (1,1):=by kernel_rfl
theorem Q21:Tryz.prog.cellsOf 5=1:=by kernel_rfl
theorem Q9g:Qa5 Tryz.prog 5=some (PV.int IntKind.u8 0):=by kernel_rfl
theorem Zcv:Tryz.prog.underlying 5=some (.int .u8):=by kernel_rfl
theorem Zeu:tyOk Tryz.prog 9=true:=by kernel_rfl
theorem Zcw:Qbh Tryz.prog 9=false:=by kernel_rfl
theorem Qxj:(Tryz.prog.info? 9).isSome=true:=by kernel_rfl
theorem Q9h:Qau Tryz.prog 9=some (1,16):=by kernel_rfl
theorem Q22:Tryz.prog.cellsOf 9=1:=by kernel_rfl
theorem Q9i:Qa5 Tryz.prog 9=some (PV.str {data:={toList:=[]}}):=by kernel_rfl
theorem Q8e:Tryz.prog.underlying 9=some .string:=by kernel_rfl
theorem Q9j (s:ByteArray):Qb0 Tryz.prog 9 (.str s)=some (.int .i64 s.size):=by simp only [Qb0,Q8e]
theorem Zcx:tyOk Tryz.prog 21=true:=by kernel_rfl
theorem Q9k:Qbh Tryz.prog 21=false:=by kernel_rfl
theorem Qt2:(Tryz.prog.info? 21).isSome=true:=by kernel_rfl
theorem Q23:Qau Tryz.prog 21=some (1,4):=by kernel_rfl
theorem Qxk:Tryz.prog.cellsOf 21=1:=by kernel_rfl
theorem Q24:Qa5 Tryz.prog 21=some (PV.int IntKind.i32 0):=by kernel_rfl
theorem Q9l:Tryz.prog.underlying 21=some (.int .i32):=by kernel_rfl
theorem Zcy:tyOk Tryz.prog 23=true:=by kernel_rfl
theorem Q9m:Qbh Tryz.prog 23=true:=by kernel_rfl
theorem Qt3:(Tryz.prog.info? 23).isSome=true:=by kernel_rfl
theorem Q25:Qau Tryz.prog 23=some (2,24):=by kernel_rfl
theorem Qxl:Tryz.prog.cellsOf 23=2:=by kernel_rfl
theorem Q26:Qa5 Tryz.prog 23=some (PV.agg [PV.bool Bool.false,PV.str {data:={toList:=[]}}]):=by kernel_rfl
theorem Qxm:buildable Tryz.prog 23=true:=by kernel_rfl
theorem Q9n:Qbi Tryz.prog 23 0=some (0,4,1):=by kernel_rfl
theorem Q9o:Qad Tryz.prog 23 0=some (0,1):=by kernel_rfl
theorem Q9p:Qbi Tryz.prog 23 1=some (1,9,1):=by kernel_rfl
theorem Q9q:Qad Tryz.prog 23 1=some (1,1):=by kernel_rfl
theorem Q9r:Qdx Tryz.prog 23=some [0,2]:=by kernel_rfl
theorem Zcz:tyOk Tryz.prog 26=true:=by kernel_rfl
theorem Q9s:Qbh Tryz.prog 26=false:=by kernel_rfl
theorem Qt4:(Tryz.prog.info? 26).isSome=true:=by kernel_rfl
theorem Q27:Qau Tryz.prog 26=some (1,8):=by kernel_rfl
theorem Qxn:Tryz.prog.cellsOf 26=1:=by kernel_rfl
theorem Q28:Qa5 Tryz.prog 26=some (PV.int IntKind.i64 0):=by kernel_rfl
theorem Q9t:Tryz.prog.underlying 26=some (.int .i64):=by kernel_rfl
theorem Zc0:tyOk Tryz.prog 30=true:=by kernel_rfl
theorem Q9u:Qbh Tryz.prog 30=false:=by kernel_rfl
theorem Qt5:(Tryz.prog.info? 30).isSome=true:=by kernel_rfl
theorem Q29:Qau Tryz.prog 30=some (1,24):=by kernel_rfl
theorem Qxo:Tryz.prog.cellsOf 30=1:=by kernel_rfl
theorem Q3a:Qa5 Tryz.prog 30=some PV.nilS:=by kernel_rfl
theorem Q3b:Qbo Tryz.prog 30=some 3:=by kernel_rfl
theorem Qgt:Tryz.prog.underlying 30=some (.slice 3):=by kernel_rfl
theorem Q3c (es:List PV):Qb0 Tryz.prog 30 (.slc es)=some (.int .i64 es.length):=by simp only [Qb0,Qgt]
theorem Q3d:Qb0 Tryz.prog 30 .nilS=some (.int .i64 0):=by simp only [Qb0,Qgt]
theorem Q3e (b e o n:Nat):Qb0 Tryz.prog 30 (.bs b e o n)=some (.int .i64 n):=by simp only [Qb0,Qgt]
theorem Zc1:tyOk Tryz.prog 32=true:=by kernel_rfl
theorem Q9v:Qbh Tryz.prog 32=true:=by kernel_rfl
theorem Qt6:(Tryz.prog.info? 32).isSome=true:=by kernel_rfl
theorem Q3f:Qau Tryz.prog 32=some (2,32):=by kernel_rfl
theorem Qxp:Tryz.prog.cellsOf 32=2:=by kernel_rfl
theorem Q3g:Qa5 Tryz.prog 32=some (PV.agg [PV.bool Bool.false,PV.nilS]):=by kernel_rfl
theorem Qxq:buildable Tryz.prog 32=true:=by kernel_rfl
theorem Q9w:Qbi Tryz.prog 32 0=some (0,4,1):=by kernel_rfl
theorem Q9x:Qad Tryz.prog 32 0=some (0,1):=by kernel_rfl
theorem Q9y:Qbi Tryz.prog 32 1=some (1,30,1):=by kernel_rfl
theorem Q9z:Qad Tryz.prog 32 1=some (1,1):=by kernel_rfl
theorem Zc2:tyOk Tryz.prog 40=true:=by kernel_rfl
theorem Q90:Qbh Tryz.prog 40=false:=by kernel_rfl
theorem Qt7:(Tryz.prog.info? 40).isSome=true:=by kernel_rfl
theorem Q3h:Qau Tryz.prog 40=some (1,24):=by kernel_rfl
theorem Qxr:Tryz.prog.cellsOf 40=1:=by kernel_rfl
theorem Q3i:Qa5 Tryz.prog 40=some PV.nilS:=by kernel_rfl
theorem Q3j:Qbo Tryz.prog 40=some 5:=by kernel_rfl
theorem Qgu:Tryz.prog.underlying 40=some (.slice 5):=by kernel_rfl
theorem Q3k (es:List PV):Qb0 Tryz.prog 40 (.slc es)=some (.int .i64 es.length):=by simp only [Qb0,Qgu]
theorem Q3l:Qb0 Tryz.prog 40 .nilS=some (.int .i64 0):=by simp only [Qb0,Qgu]
theorem Q3m (b e o n:Nat):Qb0 Tryz.prog 40 (.bs b e o n)=some (.int .i64 n):=by simp only [Qb0,Qgu]
theorem Zc3:tyOk Tryz.prog 53=true:=by kernel_rfl
theorem Q91:Qbh Tryz.prog 53=false:=by kernel_rfl
theorem Qt8:(Tryz.prog.info? 53).isSome=true:=by kernel_rfl
theorem Q3n:Qau Tryz.prog 53=some (1,24):=by kernel_rfl
theorem Qxs:Tryz.prog.cellsOf 53=1:=by kernel_rfl
theorem Q3o:Qa5 Tryz.prog 53=some PV.nilS:=by kernel_rfl
theorem Q3p:Qbo Tryz.prog 53=some 23:=by kernel_rfl
theorem Qgv:Tryz.prog.underlying 53=some (.slice 23):=by kernel_rfl
theorem Q3q (es:List PV):Qb0 Tryz.prog 53 (.slc es)=some (.int .i64 es.length):=by simp only [Qb0,Qgv]
theorem Q3r:Qb0 Tryz.prog 53 .nilS=some (.int .i64 0):=by simp only [Qb0,Qgv]
theorem Q3s (b e o n:Nat):Qb0 Tryz.prog 53 (.bs b e o n)=some (.int .i64 n):=by simp only [Qb0,Qgv]
theorem Zc4:tyOk Tryz.prog 62=true:=by kernel_rfl
theorem Q92:Qbh Tryz.prog 62=false:=by kernel_rfl
theorem Qt9:(Tryz.prog.info? 62).isSome=true:=by kernel_rfl
theorem Q3t:Qau Tryz.prog 62=some (1,24):=by kernel_rfl
theorem Qxt:Tryz.prog.cellsOf 62=1:=by kernel_rfl
theorem Q3u:Qa5 Tryz.prog 62=some PV.nilS:=by kernel_rfl
theorem Q3v:Qbo Tryz.prog 62=some 9:=by kernel_rfl
theorem Qgw:Tryz.prog.underlying 62=some (.slice 9):=by kernel_rfl
theorem Q3w (es:List PV):Qb0 Tryz.prog 62 (.slc es)=some (.int .i64 es.length):=by simp only [Qb0,Qgw]
theorem Q3x:Qb0 Tryz.prog 62 .nilS=some (.int .i64 0):=by simp only [Qb0,Qgw]
theorem Q3y (b e o n:Nat):Qb0 Tryz.prog 62 (.bs b e o n)=some (.int .i64 n):=by simp only [Qb0,Qgw]
theorem Zc5:tyOk Tryz.prog 64=true:=by kernel_rfl
theorem Q93:Qbh Tryz.prog 64=false:=by kernel_rfl
theorem Qua:(Tryz.prog.info? 64).isSome=true:=by kernel_rfl
theorem Q3z:Qau Tryz.prog 64=some (1,24):=by kernel_rfl
theorem Qxu:Tryz.prog.cellsOf 64=1:=by kernel_rfl
theorem Q30:Qa5 Tryz.prog 64=some PV.nilS:=by kernel_rfl
theorem Q31:Qbo Tryz.prog 64=some 66:=by kernel_rfl
theorem Qgx:Tryz.prog.underlying 64=some (.slice 66):=by kernel_rfl
theorem Q32 (es:List PV):Qb0 Tryz.prog 64 (.slc es)=some (.int .i64 es.length):=by simp only [Qb0,Qgx]
theorem Q33:Qb0 Tryz.prog 64 .nilS=some (.int .i64 0):=by simp only [Qb0,Qgx]
theorem Q34 (b e o n:Nat):Qb0 Tryz.prog 64 (.bs b e o n)=some (.int .i64 n):=by simp only [Qb0,Qgx]
theorem Zc6:tyOk Tryz.prog 66=true:=by kernel_rfl
theorem Q94:Qbh Tryz.prog 66=false:=by kernel_rfl
theorem Qub:(Tryz.prog.info? 66).isSome=true:=by kernel_rfl
theorem Q35:Qau Tryz.prog 66=some (1,8):=by kernel_rfl
theorem Qxv:Tryz.prog.cellsOf 66=1:=by kernel_rfl
theorem Q36:Qa5 Tryz.prog 66=some (PV.int IntKind.u64 0):=by kernel_rfl
theorem Q95:Tryz.prog.underlying 66=some (.int .u64):=by kernel_rfl
theorem Zc7:tyOk Tryz.prog 81=true:=by kernel_rfl
theorem Q96:Qbh Tryz.prog 81=false:=by kernel_rfl
theorem Quc:(Tryz.prog.info? 81).isSome=true:=by kernel_rfl
theorem Q37:Qau Tryz.prog 81=some (1,16):=by kernel_rfl
theorem Qxw:Tryz.prog.cellsOf 81=1:=by kernel_rfl
theorem Q38:Qa5 Tryz.prog 81=some PV.nilI:=by kernel_rfl
theorem Zc8:tyOk Tryz.prog 87=true:=by kernel_rfl
theorem Q97:Qbh Tryz.prog 87=true:=by kernel_rfl
theorem Qud:(Tryz.prog.info? 87).isSome=true:=by kernel_rfl
theorem Q39:Qau Tryz.prog 87=some (2,32):=by kernel_rfl
theorem Qxx:Tryz.prog.cellsOf 87=2:=by kernel_rfl
theorem Q4a:Qa5 Tryz.prog 87=some (PV.agg [PV.bool Bool.false,PV.nilS]):=by kernel_rfl
theorem Qxy:buildable Tryz.prog 87=true:=by kernel_rfl
theorem Q98:Qbi Tryz.prog 87 0=some (0,4,1):=by kernel_rfl
theorem Q99:Qad Tryz.prog 87 0=some (0,1):=by kernel_rfl
theorem Zaa:Qbi Tryz.prog 87 1=some (1,64,1):=by kernel_rfl
theorem Zab:Qad Tryz.prog 87 1=some (1,1):=by kernel_rfl
theorem Zac:tyOk Tryz.prog 106=true:=by kernel_rfl
theorem Q4b:Qbh Tryz.prog 106=false:=by kernel_rfl
theorem Qqm:(Tryz.prog.info? 106).isSome=true:=by kernel_rfl
theorem Qxz:Qau Tryz.prog 106=some (1,8):=by kernel_rfl
theorem Que:Tryz.prog.cellsOf 106=1:=by kernel_rfl
theorem Qx0:Qa5 Tryz.prog 106=some (PV.int IntKind.u64 0):=by kernel_rfl
theorem Q4c:Tryz.prog.underlying 106=some (.int .u64):=by kernel_rfl
theorem Zad:tyOk Tryz.prog 110=true:=by kernel_rfl
theorem Q4d:Qbh Tryz.prog 110=false:=by kernel_rfl
theorem Qqn:(Tryz.prog.info? 110).isSome=true:=by kernel_rfl
theorem Qx1:Qau Tryz.prog 110=some (1,8):=by kernel_rfl
theorem Quf:Tryz.prog.cellsOf 110=1:=by kernel_rfl
theorem Qx2:Qa5 Tryz.prog 110=some PV.nilP:=by kernel_rfl
theorem Q4e:Qj6 Tryz.prog 110=true:=by kernel_rfl
theorem Zae:tyOk Tryz.prog 112=true:=by kernel_rfl
theorem Q4f:Qbh Tryz.prog 112=true:=by kernel_rfl
theorem Qqo:(Tryz.prog.info? 112).isSome=true:=by kernel_rfl
theorem Qx3:Qau Tryz.prog 112=some (2,32):=by kernel_rfl
theorem Qug:Tryz.prog.cellsOf 112=2:=by kernel_rfl
theorem Qx4:Qa5 Tryz.prog 112=some (PV.agg [PV.nilP,PV.nilS]):=by kernel_rfl
theorem Quh:buildable Tryz.prog 112=true:=by kernel_rfl
theorem Q4g:Qbi Tryz.prog 112 0=some (0,110,1):=by kernel_rfl
theorem Q4h:Qad Tryz.prog 112 0=some (0,1):=by kernel_rfl
theorem Q4i:Qbi Tryz.prog 112 1=some (1,40,1):=by kernel_rfl
theorem Q4j:Qad Tryz.prog 112 1=some (1,1):=by kernel_rfl
theorem Zaf:tyOk Tryz.prog 124=true:=by kernel_rfl
theorem Q4k:Qbh Tryz.prog 124=true:=by kernel_rfl
theorem Qqp:(Tryz.prog.info? 124).isSome=true:=by kernel_rfl
theorem Qx5:Qau Tryz.prog 124=some (24,24):=by kernel_rfl
theorem Qui:Tryz.prog.cellsOf 124=24:=by kernel_rfl
theorem Qx6:Qa5 Tryz.prog 124=some (PV.agg [PV.int IntKind.u8 0,PV.int IntKind.u8 0,PV.int IntKind.u8 0,PV.int IntKind.u8 0,PV.int IntKind.u8 0,PV.int IntKind.u8 0,PV.int IntKind.u8 0,PV.int IntKind.u8 0,PV.int IntKind.u8 0,PV.int IntKind.u8 0,PV.int IntKind.u8 0,PV.int IntKind.u8 0,PV.int IntKind.u8 0,PV.int IntKind.u8 0,PV.int IntKind.u8 0,PV.int IntKind.u8 0,PV.int IntKind.u8 0,PV.int IntKind.u8 0,PV.int IntKind.u8 0,PV.int IntKind.u8 0,PV.int IntKind.u8 0,PV.int IntKind.u8 0,PV.int IntKind.u8 0,PV.int IntKind.u8 0]):=by kernel_rfl
theorem Q4l:Qe8 Tryz.prog 124=some (24,5):=by kernel_rfl
theorem Quj:buildable Tryz.prog 124=true:=by kernel_rfl
theorem Q4m:Qad Tryz.prog 124 0=some (0,1):=by kernel_rfl
theorem Q4n:Qad Tryz.prog 124 1=some (1,1):=by kernel_rfl
theorem Q4o:Qad Tryz.prog 124 2=some (2,1):=by kernel_rfl
theorem Q4p:Qad Tryz.prog 124 3=some (3,1):=by kernel_rfl
theorem Q4q:Qad Tryz.prog 124 4=some (4,1):=by kernel_rfl
theorem Q4r:Qad Tryz.prog 124 5=some (5,1):=by kernel_rfl
theorem Q4s:Qad Tryz.prog 124 6=some (6,1):=by kernel_rfl
theorem Q4t:Qad Tryz.prog 124 7=some (7,1):=by kernel_rfl
theorem Q4u:Qad Tryz.prog 124 8=some (8,1):=by kernel_rfl
theorem Q4v:Qad Tryz.prog 124 9=some (9,1):=by kernel_rfl
theorem Qx7:Qad Tryz.prog 124 10=some (10,1):=by kernel_rfl
theorem Qx8:Qad Tryz.prog 124 11=some (11,1):=by kernel_rfl
theorem Qx9:Qad Tryz.prog 124 12=some (12,1):=by kernel_rfl
theorem Qya:Qad Tryz.prog 124 13=some (13,1):=by kernel_rfl
theorem Qyb:Qad Tryz.prog 124 14=some (14,1):=by kernel_rfl
theorem Qyc:Qad Tryz.prog 124 15=some (15,1):=by kernel_rfl
theorem Qyd:Qad Tryz.prog 124 16=some (16,1):=by kernel_rfl
theorem Qye:Qad Tryz.prog 124 17=some (17,1):=by kernel_rfl
theorem Qyf:Qad Tryz.prog 124 18=some (18,1):=by kernel_rfl
theorem Qyg:Qad Tryz.prog 124 19=some (19,1):=by kernel_rfl
theorem Zag:tyOk Tryz.prog 128=true:=by kernel_rfl
theorem Q4w:Qbh Tryz.prog 128=false:=by kernel_rfl
theorem Qqq:(Tryz.prog.info? 128).isSome=true:=by kernel_rfl
theorem Qyh:Qau Tryz.prog 128=some (1,4):=by kernel_rfl
theorem Quk:Tryz.prog.cellsOf 128=1:=by kernel_rfl
theorem Qyi:Qa5 Tryz.prog 128=some (PV.int IntKind.u32 0):=by kernel_rfl
theorem Q4x:Tryz.prog.underlying 128=some (.int .u32):=by kernel_rfl
theorem Zah:tyOk Tryz.prog 131=true:=by kernel_rfl
theorem Q4y:Qbh Tryz.prog 131=false:=by kernel_rfl
theorem Qqr:(Tryz.prog.info? 131).isSome=true:=by kernel_rfl
theorem Qyj:Qau Tryz.prog 131=some (1,8):=by kernel_rfl
theorem Qul:Tryz.prog.cellsOf 131=1:=by kernel_rfl
theorem Qyk:Qa5 Tryz.prog 131=some PV.nilP:=by kernel_rfl
theorem Q4z:Qj6 Tryz.prog 131=true:=by kernel_rfl
theorem Zai:tyOk Tryz.prog 141=true:=by kernel_rfl
theorem Q40:Qbh Tryz.prog 141=true:=by kernel_rfl
theorem Qqs:(Tryz.prog.info? 141).isSome=true:=by kernel_rfl
theorem Qyl:Qau Tryz.prog 141=some (20,160):=by kernel_rfl
theorem Qum:Tryz.prog.cellsOf 141=20:=by kernel_rfl
theorem Qym:Qa5 Tryz.prog 141=some (PV.agg [PV.int IntKind.u64 0,PV.int IntKind.u64 0,PV.int IntKind.u64 0,PV.int IntKind.u64 0,PV.int IntKind.u64 0,PV.int IntKind.u64 0,PV.int IntKind.u64 0,PV.int IntKind.u64 0,PV.int IntKind.u64 0,PV.int IntKind.u64 0,PV.int IntKind.u64 0,PV.int IntKind.u64 0,PV.int IntKind.u64 0,PV.int IntKind.u64 0,PV.int IntKind.u64 0,PV.int IntKind.u64 0,PV.int IntKind.u64 0,PV.int IntKind.u64 0,PV.int IntKind.u64 0,PV.int IntKind.u64 0]):=by kernel_rfl
theorem Q41:Qe8 Tryz.prog 141=some (20,66):=by kernel_rfl
theorem Qun:buildable Tryz.prog 141=true:=by kernel_rfl
theorem Q42:Qad Tryz.prog 141 0=some (0,1):=by kernel_rfl
theorem Q43:Qad Tryz.prog 141 1=some (1,1):=by kernel_rfl
theorem Q44:Qad Tryz.prog 141 2=some (2,1):=by kernel_rfl
theorem Q45:Qad Tryz.prog 141 3=some (3,1):=by kernel_rfl
theorem Q46:Qad Tryz.prog 141 4=some (4,1):=by kernel_rfl
theorem Q47:Qad Tryz.prog 141 5=some (5,1):=by kernel_rfl
theorem Q48:Qad Tryz.prog 141 6=some (6,1):=by kernel_rfl
theorem Q49:Qad Tryz.prog 141 7=some (7,1):=by kernel_rfl
theorem Q5a:Qad Tryz.prog 141 8=some (8,1):=by kernel_rfl
theorem Q5b:Qad Tryz.prog 141 9=some (9,1):=by kernel_rfl
theorem Qyn:Qad Tryz.prog 141 10=some (10,1):=by kernel_rfl
theorem Qyo:Qad Tryz.prog 141 11=some (11,1):=by kernel_rfl
theorem Qyp:Qad Tryz.prog 141 12=some (12,1):=by kernel_rfl
theorem Qyq:Qad Tryz.prog 141 13=some (13,1):=by kernel_rfl
theorem Qyr:Qad Tryz.prog 141 14=some (14,1):=by kernel_rfl
theorem Qys:Qad Tryz.prog 141 15=some (15,1):=by kernel_rfl
theorem Qyt:Qad Tryz.prog 141 16=some (16,1):=by kernel_rfl
theorem Qyu:Qad Tryz.prog 141 17=some (17,1):=by kernel_rfl
theorem Qyv:Qad Tryz.prog 141 18=some (18,1):=by kernel_rfl
theorem Qyw:Qad Tryz.prog 141 19=some (19,1):=by kernel_rfl
theorem Zaj:tyOk Tryz.prog 142=true:=by kernel_rfl
theorem Q5c:Qbh Tryz.prog 142=true:=by kernel_rfl
theorem Qqt:(Tryz.prog.info? 142).isSome=true:=by kernel_rfl
theorem Qyx:Qau Tryz.prog 142=some (65,65):=by kernel_rfl
theorem Qup:Tryz.prog.cellsOf 142=65:=by kernel_rfl
theorem Qyy:Qa5 Tryz.prog 142=some (PV.agg [PV.int IntKind.u8 0,PV.int IntKind.u8 0,PV.int IntKind.u8 0,PV.int IntKind.u8 0,PV.int IntKind.u8 0,PV.int IntKind.u8 0,PV.int IntKind.u8 0,PV.int IntKind.u8 0,PV.int IntKind.u8 0,PV.int IntKind.u8 0,PV.int IntKind.u8 0,PV.int IntKind.u8 0,PV.int IntKind.u8 0,PV.int IntKind.u8 0,PV.int IntKind.u8 0,PV.int IntKind.u8 0,PV.int IntKind.u8 0,PV.int IntKind.u8 0,PV.int IntKind.u8 0,PV.int IntKind.u8 0,PV.int IntKind.u8 0,PV.int IntKind.u8 0,PV.int IntKind.u8 0,PV.int IntKind.u8 0,PV.int IntKind.u8 0,PV.int IntKind.u8 0,PV.int IntKind.u8 0,PV.int IntKind.u8 0,PV.int IntKind.u8 0,PV.int IntKind.u8 0,PV.int IntKind.u8 0,PV.int IntKind.u8 0,PV.int IntKind.u8 0,PV.int IntKind.u8 0,PV.int IntKind.u8 0,PV.int IntKind.u8 0,PV.int IntKind.u8 0,PV.int IntKind.u8 0,PV.int IntKind.u8 0,PV.int IntKind.u8 0,PV.int IntKind.u8 0,PV.int IntKind.u8 0,PV.int IntKind.u8 0,PV.int IntKind.u8 0,PV.int IntKind.u8 0,PV.int IntKind.u8 0,PV.int IntKind.u8 0,PV.int IntKind.u8 0,PV.int IntKind.u8 0,PV.int IntKind.u8 0,PV.int IntKind.u8 0,PV.int IntKind.u8 0,PV.int IntKind.u8 0,PV.int IntKind.u8 0,PV.int IntKind.u8 0,PV.int IntKind.u8 0,PV.int IntKind.u8 0,PV.int IntKind.u8 0,PV.int IntKind.u8 0,PV.int IntKind.u8 0,PV.int IntKind.u8 0,PV.int IntKind.u8 0,PV.int IntKind.u8 0,PV.int IntKind.u8 0,PV.int IntKind.u8 0]):=by kernel_rfl
theorem Q5d:Qe8 Tryz.prog 142=some (65,5):=by kernel_rfl
theorem Quq:buildable Tryz.prog 142=true:=by kernel_rfl
theorem Q5e:Qad Tryz.prog 142 0=some (0,1):=by kernel_rfl
theorem Q5f:Qad Tryz.prog 142 1=some (1,1):=by kernel_rfl
theorem Q5g:Qad Tryz.prog 142 2=some (2,1):=by kernel_rfl
theorem Q5h:Qad Tryz.prog 142 3=some (3,1):=by kernel_rfl
theorem Q5i:Qad Tryz.prog 142 4=some (4,1):=by kernel_rfl
theorem Q5j:Qad Tryz.prog 142 5=some (5,1):=by kernel_rfl
theorem Q5k:Qad Tryz.prog 142 6=some (6,1):=by kernel_rfl
theorem Q5l:Qad Tryz.prog 142 7=some (7,1):=by kernel_rfl
theorem Q5m:Qad Tryz.prog 142 8=some (8,1):=by kernel_rfl
theorem Q5n:Qad Tryz.prog 142 9=some (9,1):=by kernel_rfl
theorem Qyz:Qad Tryz.prog 142 10=some (10,1):=by kernel_rfl
theorem Qy0:Qad Tryz.prog 142 11=some (11,1):=by kernel_rfl
theorem Qy1:Qad Tryz.prog 142 12=some (12,1):=by kernel_rfl
theorem Qy2:Qad Tryz.prog 142 13=some (13,1):=by kernel_rfl
theorem Qy3:Qad Tryz.prog 142 14=some (14,1):=by kernel_rfl
theorem Qy4:Qad Tryz.prog 142 15=some (15,1):=by kernel_rfl
theorem Qy5:Qad Tryz.prog 142 16=some (16,1):=by kernel_rfl
theorem Qy6:Qad Tryz.prog 142 17=some (17,1):=by kernel_rfl
theorem Qy7:Qad Tryz.prog 142 18=some (18,1):=by kernel_rfl
theorem Qy8:Qad Tryz.prog 142 19=some (19,1):=by kernel_rfl
theorem Zak:tyOk Tryz.prog 145=true:=by kernel_rfl
theorem Q5o:Qbh Tryz.prog 145=false:=by kernel_rfl
theorem Qqu:(Tryz.prog.info? 145).isSome=true:=by kernel_rfl
theorem Qy9:Qau Tryz.prog 145=some (1,8):=by kernel_rfl
theorem Qur:Tryz.prog.cellsOf 145=1:=by kernel_rfl
theorem Qza:Qa5 Tryz.prog 145=some PV.nilP:=by kernel_rfl
theorem Zal:tyOk Tryz.prog 150=true:=by kernel_rfl
theorem Q5p:Qbh Tryz.prog 150=true:=by kernel_rfl
theorem Qqv:(Tryz.prog.info? 150).isSome=true:=by kernel_rfl
theorem Qzb:Qau Tryz.prog 150=some (3,48):=by kernel_rfl
theorem Qus:Tryz.prog.cellsOf 150=3:=by kernel_rfl
theorem Qzc:Qa5 Tryz.prog 150=some (PV.agg [PV.str {data:={toList:=[]}},PV.str {data:={toList:=[]}},PV.nilI]):=by kernel_rfl
theorem Qut:buildable Tryz.prog 150=true:=by kernel_rfl
theorem Q5q:Qbi Tryz.prog 150 0=some (0,9,1):=by kernel_rfl
theorem Q5r:Qad Tryz.prog 150 0=some (0,1):=by kernel_rfl
theorem Q5s:Qbi Tryz.prog 150 1=some (1,9,1):=by kernel_rfl
theorem Q5t:Qad Tryz.prog 150 1=some (1,1):=by kernel_rfl
theorem Q5u:Qbi Tryz.prog 150 2=some (2,81,1):=by kernel_rfl
theorem Q5v:Qad Tryz.prog 150 2=some (2,1):=by kernel_rfl
theorem Zam:tyOk Tryz.prog 156=true:=by kernel_rfl
theorem Q5w:Qbh Tryz.prog 156=true:=by kernel_rfl
theorem Qqw:(Tryz.prog.info? 156).isSome=true:=by kernel_rfl
theorem Qzd:Qau Tryz.prog 156=some (1,16):=by kernel_rfl
theorem Quu:Tryz.prog.cellsOf 156=1:=by kernel_rfl
theorem Qze:Qa5 Tryz.prog 156=some (PV.agg [PV.str {data:={toList:=[]}}]):=by kernel_rfl
theorem Quv:buildable Tryz.prog 156=true:=by kernel_rfl
theorem Q5x:Qbi Tryz.prog 156 0=some (0,9,1):=by kernel_rfl
theorem Q5y:Qad Tryz.prog 156 0=some (0,1):=by kernel_rfl
theorem Q5z:Qdx Tryz.prog 156=some [2]:=by kernel_rfl
theorem Zan:tyOk Tryz.prog 157=true:=by kernel_rfl
theorem Q50:Qbh Tryz.prog 157=true:=by kernel_rfl
theorem Qqx:(Tryz.prog.info? 157).isSome=true:=by kernel_rfl
theorem Qzf:Qau Tryz.prog 157=some (32,32):=by kernel_rfl
theorem Quw:Tryz.prog.cellsOf 157=32:=by kernel_rfl
theorem Qzg:Qa5 Tryz.prog 157=some (PV.agg [PV.int IntKind.u8 0,PV.int IntKind.u8 0,PV.int IntKind.u8 0,PV.int IntKind.u8 0,PV.int IntKind.u8 0,PV.int IntKind.u8 0,PV.int IntKind.u8 0,PV.int IntKind.u8 0,PV.int IntKind.u8 0,PV.int IntKind.u8 0,PV.int IntKind.u8 0,PV.int IntKind.u8 0,PV.int IntKind.u8 0,PV.int IntKind.u8 0,PV.int IntKind.u8 0,PV.int IntKind.u8 0,PV.int IntKind.u8 0,PV.int IntKind.u8 0,PV.int IntKind.u8 0,PV.int IntKind.u8 0,PV.int IntKind.u8 0,PV.int IntKind.u8 0,PV.int IntKind.u8 0,PV.int IntKind.u8 0,PV.int IntKind.u8 0,PV.int IntKind.u8 0,PV.int IntKind.u8 0,PV.int IntKind.u8 0,PV.int IntKind.u8 0,PV.int IntKind.u8 0,PV.int IntKind.u8 0,PV.int IntKind.u8 0]):=by kernel_rfl
theorem Q51:Qe8 Tryz.prog 157=some (32,5):=by kernel_rfl
theorem Qux:buildable Tryz.prog 157=true:=by kernel_rfl
theorem Q52:Qad Tryz.prog 157 0=some (0,1):=by kernel_rfl
theorem Q53:Qad Tryz.prog 157 1=some (1,1):=by kernel_rfl
theorem Q54:Qad Tryz.prog 157 2=some (2,1):=by kernel_rfl
theorem Q55:Qad Tryz.prog 157 3=some (3,1):=by kernel_rfl
theorem Q56:Qad Tryz.prog 157 4=some (4,1):=by kernel_rfl
theorem Q57:Qad Tryz.prog 157 5=some (5,1):=by kernel_rfl
theorem Q58:Qad Tryz.prog 157 6=some (6,1):=by kernel_rfl
theorem Q59:Qad Tryz.prog 157 7=some (7,1):=by kernel_rfl
theorem Q6a:Qad Tryz.prog 157 8=some (8,1):=by kernel_rfl
theorem Q6b:Qad Tryz.prog 157 9=some (9,1):=by kernel_rfl
theorem Qzh:Qad Tryz.prog 157 10=some (10,1):=by kernel_rfl
theorem Qzi:Qad Tryz.prog 157 11=some (11,1):=by kernel_rfl
theorem Qzj:Qad Tryz.prog 157 12=some (12,1):=by kernel_rfl
theorem Qzk:Qad Tryz.prog 157 13=some (13,1):=by kernel_rfl
theorem Qzl:Qad Tryz.prog 157 14=some (14,1):=by kernel_rfl
theorem Qzm:Qad Tryz.prog 157 15=some (15,1):=by kernel_rfl
theorem Qzn:Qad Tryz.prog 157 16=some (16,1):=by kernel_rfl
theorem Qzo:Qad Tryz.prog 157 17=some (17,1):=by kernel_rfl
theorem Qzp:Qad Tryz.prog 157 18=some (18,1):=by kernel_rfl
theorem Qzq:Qad Tryz.prog 157 19=some (19,1):=by kernel_rfl
theorem Zao:tyOk Tryz.prog 158=true:=by kernel_rfl
theorem Q6c:Qbh Tryz.prog 158=true:=by kernel_rfl
theorem Qqy:(Tryz.prog.info? 158).isSome=true:=by kernel_rfl
theorem Qzr:Qau Tryz.prog 158=some (64,64):=by kernel_rfl
theorem Quy:Tryz.prog.cellsOf 158=64:=by kernel_rfl
theorem Qzs:Qa5 Tryz.prog 158=some (PV.agg [PV.int IntKind.u8 0,PV.int IntKind.u8 0,PV.int IntKind.u8 0,PV.int IntKind.u8 0,PV.int IntKind.u8 0,PV.int IntKind.u8 0,PV.int IntKind.u8 0,PV.int IntKind.u8 0,PV.int IntKind.u8 0,PV.int IntKind.u8 0,PV.int IntKind.u8 0,PV.int IntKind.u8 0,PV.int IntKind.u8 0,PV.int IntKind.u8 0,PV.int IntKind.u8 0,PV.int IntKind.u8 0,PV.int IntKind.u8 0,PV.int IntKind.u8 0,PV.int IntKind.u8 0,PV.int IntKind.u8 0,PV.int IntKind.u8 0,PV.int IntKind.u8 0,PV.int IntKind.u8 0,PV.int IntKind.u8 0,PV.int IntKind.u8 0,PV.int IntKind.u8 0,PV.int IntKind.u8 0,PV.int IntKind.u8 0,PV.int IntKind.u8 0,PV.int IntKind.u8 0,PV.int IntKind.u8 0,PV.int IntKind.u8 0,PV.int IntKind.u8 0,PV.int IntKind.u8 0,PV.int IntKind.u8 0,PV.int IntKind.u8 0,PV.int IntKind.u8 0,PV.int IntKind.u8 0,PV.int IntKind.u8 0,PV.int IntKind.u8 0,PV.int IntKind.u8 0,PV.int IntKind.u8 0,PV.int IntKind.u8 0,PV.int IntKind.u8 0,PV.int IntKind.u8 0,PV.int IntKind.u8 0,PV.int IntKind.u8 0,PV.int IntKind.u8 0,PV.int IntKind.u8 0,PV.int IntKind.u8 0,PV.int IntKind.u8 0,PV.int IntKind.u8 0,PV.int IntKind.u8 0,PV.int IntKind.u8 0,PV.int IntKind.u8 0,PV.int IntKind.u8 0,PV.int IntKind.u8 0,PV.int IntKind.u8 0,PV.int IntKind.u8 0,PV.int IntKind.u8 0,PV.int IntKind.u8 0,PV.int IntKind.u8 0,PV.int IntKind.u8 0,PV.int IntKind.u8 0]):=by kernel_rfl
theorem Q6d:Qe8 Tryz.prog 158=some (64,5):=by kernel_rfl
theorem Quz:buildable Tryz.prog 158=true:=by kernel_rfl
theorem Q6e:Qad Tryz.prog 158 0=some (0,1):=by kernel_rfl
theorem Q6f:Qad Tryz.prog 158 1=some (1,1):=by kernel_rfl
theorem Q6g:Qad Tryz.prog 158 2=some (2,1):=by kernel_rfl
theorem Q6h:Qad Tryz.prog 158 3=some (3,1):=by kernel_rfl
theorem Q6i:Qad Tryz.prog 158 4=some (4,1):=by kernel_rfl
theorem Q6j:Qad Tryz.prog 158 5=some (5,1):=by kernel_rfl
theorem Q6k:Qad Tryz.prog 158 6=some (6,1):=by kernel_rfl
theorem Q6l:Qad Tryz.prog 158 7=some (7,1):=by kernel_rfl
theorem Q6m:Qad Tryz.prog 158 8=some (8,1):=by kernel_rfl
theorem Q6n:Qad Tryz.prog 158 9=some (9,1):=by kernel_rfl
theorem Qzt:Qad Tryz.prog 158 10=some (10,1):=by kernel_rfl
theorem Qzu:Qad Tryz.prog 158 11=some (11,1):=by kernel_rfl
theorem Qzv:Qad Tryz.prog 158 12=some (12,1):=by kernel_rfl
theorem Qzw:Qad Tryz.prog 158 13=some (13,1):=by kernel_rfl
theorem Qzx:Qad Tryz.prog 158 14=some (14,1):=by kernel_rfl
theorem Qzy:Qad Tryz.prog 158 15=some (15,1):=by kernel_rfl
theorem Qzz:Qad Tryz.prog 158 16=some (16,1):=by kernel_rfl
theorem Qz0:Qad Tryz.prog 158 17=some (17,1):=by kernel_rfl
theorem Qz1:Qad Tryz.prog 158 18=some (18,1):=by kernel_rfl
theorem Qz2:Qad Tryz.prog 158 19=some (19,1):=by kernel_rfl
attribute [go_sem] Zeq Zcp Qxf Q88 Q2y Q89 Zcq Zer Zcr Qxg Q9a Q2z Q9b Zcs Zes Zct
attribute [go_sem] Qxh Q9c Q20 Q9d Q9e Zet Zcu Qxi Q9f Q21 Q9g Zcv Zeu Zcw Qxj Q9h
attribute [go_sem] Q22 Q9i Q8e Q9j Zcx Q9k Qt2 Q23 Qxk Q24 Q9l Zcy Q9m Qt3 Q25 Qxl
attribute [go_sem] Q26 Qxm Q9n Q9o Q9p Q9q Q9r Zcz Q9s Qt4 Q27 Qxn Q28 Q9t Zc0 Q9u
attribute [go_sem] Qt5 Q29 Qxo Q3a Q3b Qgt Q3c Q3d Q3e Zc1 Q9v Qt6 Q3f Qxp Q3g Qxq
attribute [go_sem] Q9w Q9x Q9y Q9z Zc2 Q90 Qt7 Q3h Qxr Q3i Q3j Qgu Q3k Q3l Q3m
attribute [go_sem] Zc3 Q91 Qt8 Q3n Qxs
attribute [go_sem] Q3o Q3p Qgv Q3q Q3r Q3s Zc4 Q92 Qt9 Q3t Qxt Q3u Q3v Qgw Q3w Q3x
attribute [go_sem] Q3y Zc5 Q93 Qua Q3z Qxu Q30 Q31 Qgx Q32 Q33 Q34 Zc6 Q94 Qub Q35
attribute [go_sem] Qxv Q36 Q95 Zc7 Q96 Quc Q37 Qxw Q38 Zc8 Q97 Qud Q39 Qxx Q4a Qxy
attribute [go_sem] Q98 Q99 Zaa Zab Zac Q4b Qqm Qxz Que Qx0 Q4c Zad Q4d Qqn Qx1 Quf
attribute [go_sem] Qx2 Q4e Zae Q4f Qqo Qx3 Qug Qx4 Quh Q4g Q4h Q4i Q4j Zaf Q4k Qqp
attribute [go_sem] Qx5 Qui Qx6 Q4l Quj Q4m Q4n Q4o Q4p Q4q Q4r Q4s Q4t Q4u Q4v Qx7
attribute [go_sem] Qx8 Qx9 Qya Qyb Qyc Qyd Qye Qyf Qyg Zag Q4w Qqq Qyh Quk Qyi Q4x
attribute [go_sem] Zah Q4y Qqr Qyj Qul Qyk Q4z Zai Q40 Qqs Qyl Qum Qym Q41 Qun Q42
attribute [go_sem] Q43 Q44 Q45 Q46 Q47 Q48 Q49 Q5a Q5b Qyn Qyo Qyp Qyq Qyr Qys Qyt
attribute [go_sem] Qyu Qyv Qyw Zaj Q5c Qqt Qyx Qup Qyy Q5d Quq Q5e Q5f Q5g Q5h Q5i
attribute [go_sem] Q5j Q5k Q5l Q5m Q5n Qyz Qy0 Qy1 Qy2 Qy3 Qy4 Qy5 Qy6 Qy7 Qy8 Zak
attribute [go_sem] Q5o Qqu Qy9 Qur Qza Zal Q5p Qqv Qzb Qus Qzc Qut Q5q Q5r Q5s Q5t
attribute [go_sem] Q5u Q5v Zam Q5w Qqw Qzd Quu Qze Quv Q5x Q5y Q5z Zan Q50 Qqx Qzf
attribute [go_sem] Quw Qzg Q51 Qux Q52 Q53 Q54 Q55 Q56 Q57 Q58 Q59 Q6a Q6b Qzh Qzi
attribute [go_sem] Qzj Qzk Qzl Qzm Qzn Qzo Qzp Qzq Zao Q6c Qqy Qzr Quy Qzs Q6d Quz
attribute [go_sem] Q6e Q6f Q6g Q6h Q6i Q6j Q6k Q6l Q6m Q6n Qzt Qzu Qzv Qzw Qzx Qzy
attribute [go_sem] Qzz Qz0 Qz1 Qz2
end Go.Proofs.YtapjnenbofmliaaGreatDoor

namespace Go.Dg
def digs (B n:Nat):List Nat:=if h:n=0∨B<2 then []else n%B::digs B (n/B)
termination_by n
decreasing_by
 simp only [not_or,Nat.not_lt]at h;exact Nat.div_lt_self (Nat.pos_of_ne_zero h.1) h.2
def val (B:Nat):List Nat→Nat
 | []=>0
 |d::l=>d+B*val B l
section
variable {B:Nat}
theorem Qan:digs B 0=[]:=by unfold digs;simp
theorem Qdh (hB:2≤B) {n:Nat} (hn:n≠0):digs B n=n%B::digs B (n/B):=by
 conv=>lhs;unfold digs
 rw [dif_neg];simp only [not_or,Nat.not_lt];exact⟨hn,hB⟩
theorem Qr5 (hB:2≤B) (n:Nat):val B (digs B n)=n:=by
 induction n using Nat.strongRecOn with
 |_ n ih=>
  by_cases hn:n=0
  ·subst hn;rw [Qan];rfl
  ·rw [Qdh hB hn];simp only [val];rw [ih _ (Nat.div_lt_self (Nat.pos_of_ne_zero hn) hB)];exact Nat.mod_add_div n B
theorem Qml (hB:2≤B) (n k:Nat):(digs B n)[k]? =if n/B^k=0 then none else some (n/B^k%B):=by
 induction k generalizing n with
 |zero=>
  by_cases hn:n=0
  ·subst hn;simp [Qan]
  ·rw [Qdh hB hn];simp [hn]
 |succ k ih=>
  by_cases hn:n=0
  ·subst hn;simp [Qan]
  ·rw [Qdh hB hn,List.getElem?_cons_succ,ih];have:n/B/B^k=n/B^(k+1):=by rw [Nat.div_div_eq_div_mul,Nat.pow_succ,Nat.mul_comm]
   rw [this]
theorem Qbr (hB:2≤B) (n k:Nat):k<(digs B n).length↔n/B^k≠0:=by
 have:=Qml hB n k;constructor
 ·intro h hz;rw [if_pos hz,List.getElem?_eq_none_iff]at this;omega
 ·intro h;rw [if_neg h]at this;exact(List.getElem?_eq_some_iff.1 this).1
theorem Qaj (hB:2≤B) (n k:Nat):(digs B n).length≤k↔n<B^k:=by
 have h:=Qbr hB n k;have hp:0<B^k:=Nat.pow_pos (by omega);rw [←Nat.not_lt,h,Decidable.not_not,Nat.div_eq_zero_iff];omega
theorem Qaw (hB:2≤B) (n:Nat):n<B^(digs B n).length:=(Qaj hB n _).1 (Nat.le_refl _)
theorem Qam (hB:2≤B) {n k:Nat} (h:k<(digs B n).length):(digs B n)[k]? =some (n/B^k%B):=by
 rw [Qml hB,if_neg ((Qbr hB n k).1 h)]
theorem Qqe (hB:2≤B) {n d:Nat} (h:d∈digs B n):d<B:=by
 obtain⟨k,hk⟩:=List.mem_iff_getElem?.1 h;rw [Qml hB]at hk;split at hk
 ·cases hk
 ·cases hk;exact Nat.mod_lt _ (by omega)
theorem Qa3 (hB:2≤B) {n k:Nat} (h:(digs B n).length≤k):n/B^k=0:=by
 have:=(Qaj hB n k).1 h;exact Nat.div_eq_of_lt this
theorem Qa4 (hB:2≤B) {n:Nat}:digs B n=[]↔n=0:=by
 constructor
 ·intro h;have:=Qr5 hB n;rw [h]at this;exact this.symm
 ·rintro rfl;exact Qan
def lows (B n i:Nat):List Nat:=(List.range i).map fun k=>n/B^k%B
theorem Qae (n i:Nat):(lows B n i).length=i:=by simp [lows]
theorem Qch (n i:Nat):lows B n (i+1)=lows B n i++[n/B^i%B]:=by simp [lows,List.range_succ]
theorem Qbe (n i k:Nat) (h:k<i):(lows B n i)[k]? =some (n/B^k%B):=by simp [lows,h]
theorem Qoc (n i:Nat):lows B n (i+1)=n%B::lows B (n/B) i:=by
 simp only [lows,List.range_succ_eq_map,List.map_cons,Nat.pow_zero,Nat.div_one,List.map_map];congr 1;apply List.map_congr_left;intro k _;simp only [Function.comp,Nat.succ_eq_add_one];rw [Nat.div_div_eq_div_mul,Nat.pow_succ,Nat.mul_comm]
theorem Q2d (hB:0<B) (n i:Nat):val B (lows B n i)=n%B^i:=by
 induction i generalizing n with
 |zero=>simp [lows,val,Nat.mod_one]
 |succ i ih=>
  rw [Qoc];simp only [val];rw [ih,Nat.pow_succ,Nat.mul_comm (B^i) B,Nat.mod_mul]
theorem Qe2 (hB:2≤B) (n:Nat):lows B n (digs B n).length=digs B n:=by
 apply List.ext_getElem?;intro k;by_cases hk:k<(digs B n).length
 ·rw [Qbe _ _ _ hk,Qam hB hk]
 ·rw [List.getElem?_eq_none (by rw [Qae];omega),List.getElem?_eq_none (by omega)]
def Qcf (l:List Nat):List Nat:=(l.reverse.dropWhile (· ==0)).reverse
theorem Qb1 (l:List Nat):Qcf (l++[0])=Qcf l:=by simp [Qcf]
theorem Qdd (l:List Nat) {d:Nat} (h:d≠0):Qcf (l++[d])=l++[d]:=by simp [Qcf,h]
theorem Qwg:Qcf []=[]:=rfl
theorem Qlp (l m:List Nat):val B (l++m)=val B l+B^l.length*val B m:=by
 induction l with
 |nil=>simp [val]
 |cons d l ih=>
  simp only [List.cons_append,val,ih,List.length_cons,Nat.pow_succ];rw [Nat.mul_add,Nat.add_assoc,←Nat.mul_assoc,Nat.mul_comm B (B^l.length)]
theorem Zb1 (hB:0<B) {l:List Nat} (h: ∀d∈l,d<B):val B l<B^l.length:=by
 induction l with
 |nil=>simp [val]
 |cons d l ih=>
  have h1:=ih fun x hx=>h x (by simp [hx]);have h2:=h d (by simp);simp only [val,List.length_cons,Nat.pow_succ];have:B*val B l+B≤B*B^l.length:=by rw [←Nat.mul_succ];exact Nat.mul_le_mul_left _ h1
  rw [Nat.mul_comm (B^l.length)];omega
theorem Q2e (hB:2≤B) {l:List Nat} (h: ∀d∈l,d<B):lows B (val B l) l.length=l:=by
 induction l with
 |nil=>rfl
 |cons d l ih=>
  have h2:=h d (by simp);rw [List.length_cons,Qoc];simp only [val];rw [Nat.add_mul_mod_self_left,Nat.mod_eq_of_lt h2,Nat.add_mul_div_left _ _ (by omega),Nat.div_eq_of_lt h2,Nat.zero_add,ih fun x hx=>h x (by simp [hx])]
theorem Qi7 (hB:2≤B) (l:List Nat) (h: ∀d∈l,d<B):Qcf l=digs B (val B l):=by
 have key: ∀n,∀l:List Nat,l.length=n→(∀d∈l,d<B)→Qcf l=digs B (val B l):=by
  intro n
  induction n with
  |zero=>intro l hl _;rw [List.length_eq_zero_iff.1 hl];simp [Qwg,val,Qan]
  |succ n ih=>
   intro l hl h;have hne:l≠ []:=by rintro rfl;simp at hl
   have hcut:=List.dropLast_concat_getLast hne;generalize l.dropLast=m at hcut;generalize l.getLast hne=d at hcut;subst hcut;have hm:m.length=n:=by simpa using hl
   have hmd: ∀x∈m,x<B:=fun x hx=>h x (by simp [hx]);by_cases hd:d=0
   ·subst hd;rw [Qb1,ih m hm hmd,Qlp];simp [val]
   ·rw [Qdd m hd];have hlen:(digs B (val B (m++[d]))).length=(m++[d]).length:=by
     apply Nat.le_antisymm
     ·exact(Qaj hB _ _).2 (Zb1 (by omega) h)
     ·have:(m++[d]).length=m.length+1:=by simp
      rw [this];apply (Qbr hB _ _).2;rw [Qlp];simp only [val,Nat.mul_zero,Nat.add_zero];rw [Nat.add_mul_div_left _ _ (Nat.pow_pos (by omega))];exact fun e=>hd (Nat.eq_zero_of_add_eq_zero_left e)
    have:=Qe2 hB (val B (m++[d]));rw [hlen,Q2e hB h]at this;exact this
 exact key l.length l rfl h
theorem Qbb (hB:2≤B) (n i:Nat):Qcf (lows B n i)=digs B (n%B^i):=by
 rw [Qi7 hB,Q2d (by omega)];intro d hd;simp only [lows,List.mem_map]at hd;obtain⟨k,_,rfl⟩:=hd;exact Nat.mod_lt _ (by omega)
theorem Qtu {l:List Nat} (h: ∀d,l.getLast? =some d→d≠0):Qcf l=l:=by
 by_cases hne:l=[]
 ·subst hne;rfl
 ·have hcut:=List.dropLast_concat_getLast hne;have hl:l.getLast? =some (l.getLast hne):=List.getLast?_eq_some_getLast hne;have:=h _ hl;rw [←hcut];exact Qdd _ this
end
end Go.Dg

namespace Go.Proofs.YtapjnenbofmliaaGreatDoor
open Go.Vl Go.RowKit Go.Dg
def di (l:List Nat):PV:= .slc (l.map fun d:Nat=>PV.int .i64 (d:Int))
theorem Qdk (l:List Nat) (k:Nat):(l.map fun d:Nat=>PV.int .i64 (d:Int))[k]? =l[k]?.map fun d:Nat=>PV.int .i64 (d:Int):=List.getElem?_map
theorem Zb4 (l:List Nat):((l.map fun d:Nat=>PV.int .i64 (d:Int)).all fun x=>x.cells.length==1)=true:=by rw [List.all_map,List.all_eq_true];intro d _;rfl
theorem wrapn {n:Nat} (h:n<9223372036854775808):IntKind.i64.wrap (n:Int)=n:=Qai (by omega) (by omega)
theorem Qgp {n:Nat} (h:n<9223372036854775808):IntKind.i64.wrap (((n+1:Nat):Int)-1)=(n:Int):=by
 rw [Qai (by omega) (by omega)];omega
theorem Qd4:maxLen<9223372036854775808:=by simp [maxLen]
theorem Qe5 (l:List Nat) (hl:l.length≤maxLen):Qaf Tryz.prog 44 [di l] (di (Qcf l)):=by
 have hm:=Qd4;refine Qac (tb:=[]) 21 [.tmp 2] [0,2,14] mixed Tryz.func44 rfl (by kernel_rfl) (by kernel_rfl) (by kernel_rfl) (by kernel_rfl) ?_;simp -implicitDefEqProofs only [go_sem,seval,di];refine Qa7 mixed (fun k:{k:Nat // k≤l.length∧Qcf (l.take k)=Qcf l}=>St.of [(0,di (l.take k.1)),(2,.nilS)] []) (fun k=>k.1) ⟨l.length,Nat.le_refl _,by rw [List.take_length]⟩ ?_ ?_
 ·exact Qbc (by simp [Qag,lkp,ren1,ren0,di])
 ·rintro⟨k,hk,ht⟩;have hlen:(l.take k).length=k:=by simp;omega
  cases k with
  |zero=>
   have h1:((0:Int)<((0:Nat):Int))=False:=by simp
   simp -implicitDefEqProofs only [go_sem,seval,di,h1];rw [←ht];rfl
  |succ k=>
   have h1:((0:Int)<((k+1:Nat):Int))=True:=by simp
   have h2:(0≤(k:Int))=True:=by simp
   have hw:=Qgp (n:=k) (by omega);have hlt:k<l.length:=by omega
   have hget:(l.take (k+1))[k]? =some l[k]:=by simp [hlt]
   have hcut:l.take (k+1)=l.take k++[l[k]]:=by rw [List.take_add_one];simp [hlt]
   cases hd:((l[k]:Int)==0)with
   |true=>
    have hd0:l[k]=0:=by simpa using hd
    have h3:((k:Int)≤((k+1:Nat):Int))=True:=by simp;omega
    simp -implicitDefEqProofs only [go_sem,seval,di,List.length_map,hlen,h1,h2,h3,hw,Int.toNat_natCast,Qdk,hget,hd,Zb4];refine⟨⟨k,by omega,?_⟩,by simp,?_⟩
    ·rw [←ht,hcut,hd0,Qb1]
    ·refine Qbc (by simp [Qag,lkp,ren1,ren0,di];rw [←List.map_take];simp [List.take_take])
   |false=>
    have hd0:l[k]≠0:=by simpa using hd
    simp -implicitDefEqProofs only [go_sem,seval,di,List.length_map,hlen,h1,h2,hw,Int.toNat_natCast,Qdk,hget,hd];rw [←ht,hcut,Qdd _ hd0]
end Go.Proofs.YtapjnenbofmliaaGreatDoor

namespace Go.Dg
section
variable {B:Nat}
def carry (B a b i:Nat):Nat:=(a%B^i+b%B^i)/B^i
theorem Qhn (a b:Nat):carry B a b 0=0:=by simp [carry,Nat.mod_one]
theorem Qmq (hB:0<B) (a b i:Nat):carry B a b i≤1:=by
 have hp:0<B^i:=Nat.pow_pos hB;have h1:=Nat.mod_lt a hp;have h2:=Nat.mod_lt b hp;unfold carry;rw [Nat.div_le_iff_le_mul hp];omega
theorem Qmr (hB:0<B) (a b i:Nat):(a/B^i%B+b/B^i%B+carry B a b i)%B=(a+b)/B^i%B∧(a/B^i%B+b/B^i%B+carry B a b i)/B=carry B a b (i+1):=by
 have hp:0<B^i:=Nat.pow_pos hB;unfold carry;generalize hP:B^i=P at*;have e1:(a+b)/P=a/P+b/P+(a%P+b%P)/P:=by
  conv=>lhs;rw [←Nat.div_add_mod a P,←Nat.div_add_mod b P]
  have:P*(a/P)+a%P+(P*(b/P)+b%P)=(a%P+b%P)+P*(a/P+b/P):=by rw [Nat.mul_add];omega
  rw [this,Nat.add_mul_div_left _ _ hp];omega
 constructor
 ·rw [e1]
  conv=>rhs;rw [Nat.add_mod,Nat.add_mod (a/P)]
  conv=>lhs;rw [Nat.add_mod,Nat.add_mod (a/P%B)]
  simp
 ·have hP1:B^(i+1)=P*B:=by rw [Nat.pow_succ,hP]
  rw [hP1,Nat.mod_mul,Nat.mod_mul];have:a%P+P*(a/P%B)+(b%P+P*(b/P%B))=(a%P+b%P)+P*(a/P%B+b/P%B):=by rw [Nat.mul_add];omega
  rw [this,←Nat.div_div_eq_div_mul,Nat.add_mul_div_left _ _ hp];congr 1;omega
theorem Qwk (hB:0<B) (a b i:Nat):(carry B a b i+a/B^i%B+b/B^i%B)%B=(a+b)/B^i%B∧(carry B a b i+a/B^i%B+b/B^i%B)/B=carry B a b (i+1):=by
 have h:=Qmr hB a b i;have e:carry B a b i+a/B^i%B+b/B^i%B=a/B^i%B+b/B^i%B+carry B a b i:=by omega
 rw [e];exact h
theorem Qjr (hB:2≤B) {n i:Nat} (h1:n<B^i) (h2: ∀j,j<i→n/B^j≠0):lows B n i=digs B n:=by
 have hl:(digs B n).length=i:=by
  apply Nat.le_antisymm ((Qaj hB n i).2 h1);rcases Nat.eq_zero_or_pos i with rfl|hi
  ·exact Nat.zero_le _
  ·have:=(Qbr hB n (i-1)).2 (h2 (i-1) (by omega));omega
 rw [←hl,Qe2 hB]
theorem Q2g (hB:2≤B) {a b i:Nat} (ha:(digs B a).length≤i) (hb:(digs B b).length≤i) (hc:carry B a b i=0):a+b<B^i:=by
 have h1:=(Qaj hB a i).1 ha;have h2:=(Qaj hB b i).1 hb;unfold carry at hc;rw [Nat.mod_eq_of_lt h1,Nat.mod_eq_of_lt h2,Nat.div_eq_zero_iff]at hc;have:0<B^i:=Nat.pow_pos (by omega);omega
theorem Q2h (hB:2≤B) {a b i:Nat} (h:i<(digs B a).length∨i<(digs B b).length∨0<carry B a b i):(a+b)/B^i≠0:=by
 have hp:0<B^i:=Nat.pow_pos (by omega);have hle:B^i≤a+b:=by
  rcases h with h|h|h
  ·have:=(Qbr hB a i).1 h;have:=Nat.div_eq_zero_iff (a:=a) (b:=B^i);omega
  ·have:=(Qbr hB b i).1 h;have:=Nat.div_eq_zero_iff (a:=b) (b:=B^i);omega
  ·unfold carry at h;have h1:=Nat.mod_le a (B^i);have h2:=Nat.mod_le b (B^i);have h3:=Nat.div_eq_zero_iff (a:=a%B^i+b%B^i) (b:=B^i);omega
 have:=Nat.div_eq_zero_iff (a:=a+b) (b:=B^i);omega
end
end Go.Dg

namespace Go.Proofs.YtapjnenbofmliaaGreatDoor
open Go.Vl Go.RowKit Go.Dg
abbrev E9:Nat:=1000000000
theorem E9_2:2≤E9:=by decide
abbrev fI:Nat→PV:=fun d:Nat=>PV.int .i64 (d:Int)
theorem Qh8 (l:List Nat):(((l.map fun d:Nat=>PV.int .i64 (d:Int)).flatMap PV.cells).all PV.okCell)=true:=by
 rw [List.all_eq_true];intro x hx;obtain⟨y,hy,hx⟩:=List.mem_flatMap.1 hx;obtain⟨d,_,rfl⟩:=List.mem_map.1 hy;simp only [Zd6,List.mem_singleton]at hx;subst hx;rfl
theorem Qmw (n:Nat):Int.tmod (n:Int) 1000000000=((n%1000000000:Nat):Int):=by
 rw [Int.tmod_eq_emod_of_nonneg (by omega)];rfl
theorem Qmx (n:Nat):Int.tdiv (n:Int) 1000000000=((n/1000000000:Nat):Int):=by
 rw [Int.tdiv_eq_ediv_of_nonneg (by omega)];rfl
theorem Qbx {a b:Nat} (h:a+b<9223372036854775808):IntKind.i64.wrap ((a:Int)+(b:Int))=((a+b:Nat):Int):=by
 rw [Qai (by omega) (by omega)];omega
theorem Qay {a:Nat} (h:a+1<9223372036854775808):IntKind.i64.wrap ((a:Int)+1)=((a+1:Nat):Int):=by
 rw [Qai (by omega) (by omega)];omega
theorem Qjv (a b:Nat) (hl:(digs E9 (a+b)).length≤1000000000):Qaf Tryz.prog 42 [di (digs E9 a),di (digs E9 b)] (di (digs E9 (a+b))):=by
 have hm:=Qd4;refine Qac (tb:=[]) 52 [.tmp 4] [0,1,4,5,6,7,21,27,37] mixed Tryz.func42 rfl (by kernel_rfl) (by kernel_rfl) (by kernel_rfl) (by kernel_rfl) ?_;simp -implicitDefEqProofs only [go_sem,seval,di];refine Qa7 mixed (fun i:{i:Nat // i≤(digs E9 (a+b)).length∧ ∀j,j<i→(a+b)/E9^j≠0}=>St.of [(0,di (digs E9 a)),(1,di (digs E9 b)),(4,.nilS),(5,.bs 7 1 0 i.1),(6,.int .i64 (carry E9 a b i.1:Int)),(7,.int .i64 (i.1:Int))]
  [(7,{els:=(lows E9 (a+b) i.1).map fI,esz:=1,ety:=3,fro:=0,live:=true,arr:=true})]) (fun i=>(digs E9 (a+b)).length+1-i.1) ⟨0,Nat.zero_le _,by omega⟩ ?_ ?_
 ·refine Qh5 5 7 1 3 rfl rfl rfl (by decide) [(7,7)] rfl ?_ ?_
  ·simp [Qag,lkp,ren1,ren0,di,Qhn]
  ·simp [Qal,lkp,Box.renames,lows]
 ·rintro⟨i,hi,hmore⟩;have h0:(0≤(i:Int))=True:=by simp
  have hll:=Qae (B:=E9) (a+b) i;have hcle:=Qmq (B:=E9) (by decide) a b i;obtain⟨hs1,hs2⟩:(carry E9 a b i+a/E9^i%E9+b/E9^i%E9)%1000000000=(a+b)/E9^i%E9∧(carry E9 a b i+a/E9^i%E9+b/E9^i%E9)/1000000000=carry E9 a b (i+1):=Qwk (B:=E9) (by decide) a b i;have hda:a/E9^i%E9<E9:=Nat.mod_lt _ (by decide);have hdb:b/E9^i%E9<E9:=Nat.mod_lt _ (by decide);have hb1:((i+1)*8≤140737488355328)=True:=by simp;omega
  have hb2:(i+1≤maxLen)=True:=by simp [maxLen];omega
  have hwi:=Qay (a:=i) (by omega);have next: ∀s,((i<(digs E9 a).length)∨(i<(digs E9 b).length)∨0<carry E9 a b i)→Le s (St.of [(0,di (digs E9 a)),(1,di (digs E9 b)),(4,.nilS),(5,.bs 7 1 0 (i+1)),(6,.int .i64 (carry E9 a b (i+1):Int)),(7,.int .i64 ((i+1:Nat):Int))]
    [(7,{els:=(lows E9 (a+b) (i+1)).map fI,esz:=1,ety:=3,fro:=0,live:=true,arr:=true})])→
    ∃y:{i:Nat // i≤(digs E9 (a+b)).length∧ ∀j,j<i→(a+b)/E9^j≠0},(digs E9 (a+b)).length+1-y.1<(digs E9 (a+b)).length+1-i∧
     Le s (St.of [(0,di (digs E9 a)),(1,di (digs E9 b)),(4,.nilS),(5,.bs 7 1 0 y.1),(6,.int .i64 (carry E9 a b y.1:Int)),(7,.int .i64 (y.1:Int))]
      [(7,{els:=(lows E9 (a+b) y.1).map fI,esz:=1,ety:=3,fro:=0,live:=true,arr:=true})]):=by
   intro s hc hle;have hne:=Q2h E9_2 hc;have hlt:=(Qbr E9_2 _ _).2 hne;exact⟨⟨i+1,hlt,fun j hj=>(Nat.lt_succ_iff_lt_or_eq.1 hj).elim (hmore j) fun h=>h▸hne⟩,by simp only;omega,hle⟩
  by_cases hA:i<(digs E9 a).length
  ·have hA':((i:Int)<((digs E9 a).length:Int))=True:=by simp;omega
   have hga:=Qam E9_2 hA;by_cases hB:i<(digs E9 b).length
   ·have hB':((i:Int)<((digs E9 b).length:Int))=True:=by simp;omega
    have hgb:=Qam E9_2 hB;have w1:=Qbx (a:=carry E9 a b i) (b:=a/E9^i%E9) (by simp only [E9]at*;omega);have w2:=Qbx (a:=carry E9 a b i+a/E9^i%E9) (b:=b/E9^i%E9) (by simp only [E9]at*;omega);have w3:=wrapn (n:=(carry E9 a b i+a/E9^i%E9+b/E9^i%E9)/1000000000) (by simp only [E9]at*;omega);simp -implicitDefEqProofs only [go_sem,seval,di,List.length_map,hA',hB',h0,Qdk,hga,hgb,w1,w2,w3,Qmw,Qmx,hll,Qh8,hb1,hb2,hwi];refine next _ (.inl hA) (Qa0 (θ:=[(7,1004)]) rfl ?_ ?_)
    ·simp [Qag,lkp,ren1,ren0,di,hs2]
    ·simp [Qal,lkp,Box.renames,Qch,hs1]
   ·have hB':((i:Int)<((digs E9 b).length:Int))=False:=by simp;omega
    have hb0:b/E9^i%E9=0:=by rw [Qa3 E9_2 (Nat.le_of_not_lt hB),Nat.zero_mod]
    rw [hb0,Nat.add_zero]at hs1 hs2;have w1:=Qbx (a:=carry E9 a b i) (b:=a/E9^i%E9) (by simp only [E9]at*;omega);have w3:=wrapn (n:=(carry E9 a b i+a/E9^i%E9)/1000000000) (by simp only [E9]at*;omega);simp -implicitDefEqProofs only [go_sem,seval,di,List.length_map,hA',hB',h0,Qdk,hga,w1,w3,Qmw,Qmx,hll,Qh8,hb1,hb2,hwi];refine next _ (.inl hA) (Qa0 (θ:=[(7,1004)]) rfl ?_ ?_)
    ·simp [Qag,lkp,ren1,ren0,di,hs2]
    ·simp [Qal,lkp,Box.renames,Qch,hs1]
  ·have hA':((i:Int)<((digs E9 a).length:Int))=False:=by simp;omega
   have ha0:a/E9^i%E9=0:=by rw [Qa3 E9_2 (Nat.le_of_not_lt hA),Nat.zero_mod]
   rw [ha0,Nat.add_zero]at hs1 hs2;by_cases hB:i<(digs E9 b).length
   ·have hB':((i:Int)<((digs E9 b).length:Int))=True:=by simp;omega
    have hgb:=Qam E9_2 hB;have w2:=Qbx (a:=carry E9 a b i) (b:=b/E9^i%E9) (by simp only [E9]at*;omega);have w3:=wrapn (n:=(carry E9 a b i+b/E9^i%E9)/1000000000) (by simp only [E9]at*;omega);simp -implicitDefEqProofs only [go_sem,seval,di,List.length_map,hA',hB',h0,Qdk,hgb,w2,w3,Qmw,Qmx,hll,Qh8,hb1,hb2,hwi];refine next _ (.inr (.inl hB)) (Qa0 (θ:=[(7,1004)]) rfl ?_ ?_)
    ·simp [Qag,lkp,ren1,ren0,di,hs2]
    ·simp [Qal,lkp,Box.renames,Qch,hs1]
   ·have hB':((i:Int)<((digs E9 b).length:Int))=False:=by simp;omega
    have hb0:b/E9^i%E9=0:=by rw [Qa3 E9_2 (Nat.le_of_not_lt hB),Nat.zero_mod]
    rw [hb0,Nat.add_zero]at hs1 hs2;by_cases hC:0<carry E9 a b i
    ·have hC':((0:Int)<(carry E9 a b i:Int))=True:=by simp;omega
     have w3:=wrapn (n:=carry E9 a b i/1000000000) (by simp only [E9]at*;omega);simp -implicitDefEqProofs only [go_sem,seval,di,List.length_map,hA',hB',hC',w3,Qmw,Qmx,hll,Qh8,hb1,hb2,hwi];refine next _ (.inr (.inr hC)) (Qa0 (θ:=[(7,1004)]) rfl ?_ ?_)
     ·simp [Qag,lkp,ren1,ren0,di,hs2]
     ·simp [Qal,lkp,Box.renames,Qch,hs1]
    ·have hC':((0:Int)<(carry E9 a b i:Int))=False:=by simp;omega
     have hlt:=Q2g E9_2 (Nat.le_of_not_lt hA) (Nat.le_of_not_lt hB) (by omega);have hd:=Qjr E9_2 hlt hmore;have htk:((lows E9 (a+b) i).map fI).take i=(lows E9 (a+b) i).map fI:=List.take_of_length_le (by simp [hll]);simp -implicitDefEqProofs only [go_sem,seval,di,List.length_map,hA',hB',hC',hll,htk];rw [hd]
end Go.Proofs.YtapjnenbofmliaaGreatDoor

namespace Go.Dg
section
variable {B:Nat}
def cmpN (a b:Nat):Int:=if a<b then -1 else if b<a then 1 else 0
theorem Qqg {a b:Nat} (h:a<b):cmpN a b= -1:=by simp [cmpN,h]
theorem Qqh {a b:Nat} (h:b<a):cmpN a b=1:=by simp [cmpN,h];omega
theorem Qwh (a:Nat):cmpN a a=0:=by simp [cmpN]
theorem Qr6 (hB:2≤B) {a b:Nat} (h:(digs B a).length<(digs B b).length):a<b:=by
 have h1:=Qaw hB a;have h2:=(Qbr hB b _).1 h;have h3:=Nat.div_eq_zero_iff (a:=b) (b:=B^(digs B a).length);have:0<B^(digs B a).length:=Nat.pow_pos (by omega);omega
theorem Qf2 (hB:0<B) (a i:Nat):a/B^i=B*(a/B^(i+1))+a/B^i%B:=by
 rw [Nat.pow_succ,←Nat.div_div_eq_div_mul];exact(Nat.div_add_mod _ _).symm
theorem Qgn (hB:0<B) {a b i:Nat} (h:a/B^(i+1)=b/B^(i+1)) (hd:a/B^i%B<b/B^i%B):a<b:=by
 have h1:=Qf2 hB a i;have h2:=Qf2 hB b i;rw [h]at h1;apply Nat.lt_of_not_le;intro hle;have:=Nat.div_le_div_right (c:=B^i) hle;omega
theorem Qlr (hB:0<B) {a b i:Nat} (h:a/B^(i+1)=b/B^(i+1)) (hd:a/B^i%B=b/B^i%B):a/B^i=b/B^i:=by
 rw [Qf2 hB a i,Qf2 hB b i,h,hd]
def bor (B a b i:Nat):Nat:=if a%B^i<b%B^i then 1 else 0
theorem Qmn (a b:Nat):bor B a b 0=0:=by simp [bor,Nat.mod_one]
theorem Qls (a b i:Nat):bor B a b i≤1:=by unfold bor;split<;>omega
theorem Qwi (hB:0<B) {a b:Nat} (h:b≤a) (i:Nat):(a-b)/B^i+b/B^i+bor B a b i=a/B^i:=by
 have hp:0<B^i:=Nat.pow_pos hB;unfold bor;generalize B^i=P at*;have ha:=Nat.div_add_mod a P;have hb:=Nat.div_add_mod b P;have hm1:=Nat.mod_lt a hp;have hm2:=Nat.mod_lt b hp;have hle:b/P≤a/P:=Nat.div_le_div_right h;generalize a/P=x at*;generalize b/P=y at*;generalize a%P=r at*;generalize b%P=s at*;obtain⟨z,rfl⟩:=Nat.exists_eq_add_of_le hle;rw [Nat.mul_add]at ha;split
 ·rename_i hlt;have hz:z≠0:=by rintro rfl;rw [Nat.mul_zero]at ha;omega
  obtain⟨z',rfl⟩:=Nat.exists_eq_succ_of_ne_zero hz;have e:a-b=(P+r-s)+P*z':=by rw [Nat.mul_succ]at ha;omega
  rw [e,Nat.add_mul_div_left _ _ hp,Nat.div_eq_of_lt (by omega)];omega
 ·rename_i hlt;have e:a-b=(r-s)+P*z:=by omega
  rw [e,Nat.add_mul_div_left _ _ hp,Nat.div_eq_of_lt (by omega)];omega
theorem Qmo (hB:2≤B) {a b:Nat} (h:b≤a) (i:Nat):
  (a-b)/B^i%B+b/B^i%B+bor B a b i=a/B^i%B+B*bor B a b (i+1):=by
 have hB0:0<B:=by omega
 have h1:=Qwi hB0 h i;have h2:=Qwi hB0 h (i+1);have e1:=Qf2 hB0 (a-b) i;have e2:=Qf2 hB0 b i;have e3:=Qf2 hB0 a i;have hm:=Nat.mul_add B ((a-b)/B^(i+1)+b/B^(i+1)) (bor B a b (i+1));have hm2:=Nat.mul_add B ((a-b)/B^(i+1)) (b/B^(i+1));rw [h2]at hm;omega
def mix (B V S n m:Nat):List Nat:=(List.range n).map fun j=>if j<m then V/B^j%B else S/B^j%B
theorem Qba (V S n m:Nat):(mix B V S n m).length=n:=by simp [mix]
theorem Qcd (V S n m j:Nat) (h:j<n):(mix B V S n m)[j]? =some (if j<m then V/B^j%B else S/B^j%B):=by simp [mix,h]
theorem Qjn (hB:0<B) {V W m j:Nat} (h:V%B^m=W%B^m) (hj:j<m):V/B^j%B=W/B^j%B:=by
 have key: ∀n,n/B^j%B=(n%B^m)/B^j%B:=by
  intro n;have e:B^m=B^j*(B*B^(m-j-1)):=by
   rw [←Nat.mul_assoc,←Nat.pow_succ,←Nat.pow_add];congr 1;omega
  rw [e,Nat.mod_mul_right_div_self,Nat.mod_mul_right_mod]
 rw [key V,key W,h]
theorem Qcz (hB:0<B) {V W S n m d:Nat} (hm:m<n) (h:V%B^m=W%B^m) (hd:W/B^m%B=d):(mix B V S n m).set m d=mix B W S n (m+1):=by
 apply List.ext_getElem?;intro j;rw [List.getElem?_set];by_cases hj:j<n
 ·rw [Qcd _ _ _ _ _ hj,Qcd _ _ _ _ _ hj,Qba];by_cases e:m=j
  ·subst e;simp [hj,hd]
  ·simp only [e,if_false];by_cases hlt:j<m
   ·rw [if_pos hlt,if_pos (by omega),Qjn hB h hlt]
   ·rw [if_neg hlt,if_neg (by omega)]
 ·rw [List.getElem?_eq_none (by rw [Qba];omega),List.getElem?_eq_none (by rw [Qba];omega),Qba];simp;omega
theorem Qdi {V S n m:Nat} (hB:0<B) (h:V/B^m=S/B^m):mix B V S n m=lows B V n:=by
 apply List.map_congr_left;intro j _;split
 ·rfl
 ·rename_i hj;obtain⟨k,rfl⟩:=Nat.exists_eq_add_of_le (Nat.le_of_not_lt hj);rw [Nat.pow_add,←Nat.div_div_eq_div_mul,←Nat.div_div_eq_div_mul,h]
theorem Qgo (V S n:Nat):mix B V S n 0=lows B S n:=by simp [mix,lows]
def mulV (B S x i b k:Nat):Nat:=S+x*B^i*(b%B^k)
theorem Qjo (S x i b:Nat):mulV B S x i b 0=S:=by simp [mulV,Nat.mod_one]
theorem Qod (S x i b k:Nat):mulV B S x i b (k+1)=mulV B S x i b k+x*(b/B^k%B)*B^(i+k):=by
 unfold mulV;rw [Nat.pow_succ,Nat.mod_mul,Nat.mul_add,Nat.pow_add];have:x*B^i*(B^k*(b/B^k%B))=x*(b/B^k%B)*(B^i*B^k):=by
  simp only [Nat.mul_assoc,Nat.mul_comm,Nat.mul_left_comm]
 rw [this];omega
def mulC (B S x i b k:Nat):Nat:=mulV B S x i b k/B^(i+k)-S/B^(i+k)
theorem Q8w (S x i b k:Nat):S≤mulV B S x i b k:=Nat.le_add_right _ _
theorem Qi8 (S x i b k:Nat):mulC B S x i b k+S/B^(i+k)=mulV B S x i b k/B^(i+k):=by
 have:=Nat.div_le_div_right (c:=B^(i+k)) (Q8w (B:=B) S x i b k);unfold mulC;omega
theorem Qjp (S x i b:Nat):mulC B S x i b 0=0:=by simp [mulC,Qjo]
theorem Qmp (hB:0<B) (S x i b k:Nat):
  (S/B^(i+k)%B+mulC B S x i b k+x*(b/B^k%B))%B=mulV B S x i b (k+1)/B^(i+k)%B∧
  (S/B^(i+k)%B+mulC B S x i b k+x*(b/B^k%B))/B=mulC B S x i b (k+1):=by
 have hp:0<B^(i+k):=Nat.pow_pos hB;have h1:=Qi8 (B:=B) S x i b k;have e1:mulV B S x i b (k+1)/B^(i+k)=(S/B^(i+k)%B+mulC B S x i b k+x*(b/B^k%B))+B*(S/B^(i+k+1)):=by
  rw [Qod,Nat.add_mul_div_right _ _ hp,←h1];have:=Qf2 hB S (i+k);omega
 constructor
 ·rw [e1,Nat.add_mul_mod_self_left]
 ·have h2:=Qi8 (B:=B) S x i b (k+1);have e2:mulV B S x i b (k+1)/B^(i+(k+1))=mulV B S x i b (k+1)/B^(i+k)/B:=by
   rw [Nat.div_div_eq_div_mul,←Nat.pow_succ];rfl
  rw [e1,Nat.add_mul_div_left _ _ hB]at e2;have e3:S/B^(i+(k+1))=S/B^(i+k+1):=rfl;omega
theorem Qr7 (S x i b k:Nat):mulV B S x i b k%B^(i+k)=mulV B S x i b (k+1)%B^(i+k):=by
 rw [Qod,Nat.add_mul_mod_self_right]
theorem Qjq (a i b k:Nat) (hk:b<B^k):mulV B (a%B^i*b) (a/B^i%B) i b k=a%B^(i+1)*b:=by
 unfold mulV;rw [Nat.mod_eq_of_lt hk,Nat.pow_succ,Nat.mod_mul,Nat.add_mul];congr 1;rw [Nat.mul_comm (a/B^i%B)]
theorem Qwj (hB:0<B) {S x i b k:Nat} (hx:x<B):mulC B S x i b k<B:=by
 induction k with
 |zero=>rw [Qjp];exact hB
 |succ k ih=>
  rw [←(Qmp hB S x i b k).2,Nat.div_lt_iff_lt_mul hB];have h1:S/B^(i+k)%B<B:=Nat.mod_lt _ hB;have h2:b/B^k%B<B:=Nat.mod_lt _ hB;have h3:x*(b/B^k%B)≤(B-1)*(B-1):=Nat.mul_le_mul (by omega) (by omega);have h4:B*B=(B-1)*(B-1)+2*(B-1)+1:=by
   obtain⟨c,rfl⟩: ∃c,B=c+1:=⟨B-1,by omega⟩;simp only [Nat.add_sub_cancel,Nat.add_mul,Nat.mul_add];omega
  omega
theorem Q2f (hB:0<B) {a i b k:Nat} (hk:b<B^k):mulC B (a%B^i*b) (a/B^i%B) i b (k+1)=0:=by
 unfold mulC;rw [Qjq a i b (k+1) (Nat.lt_of_lt_of_le hk (Nat.pow_le_pow_right hB (Nat.le_succ k)))];have:a%B^(i+1)*b<B^(i+(k+1)):=by
  have h1:=Nat.mod_lt a (Nat.pow_pos (n:=i+1) hB);have e:B^(i+(k+1))=B^(i+1)*B^k:=by rw [←Nat.pow_add];congr 1;omega
  rw [e];rcases Nat.eq_zero_or_pos b with rfl|hb
  ·rw [Nat.mul_zero];exact Nat.mul_pos (Nat.pow_pos hB) (Nat.pow_pos hB)
  ·exact Nat.lt_of_lt_of_le (Nat.mul_lt_mul_of_pos_right h1 hb) (Nat.mul_le_mul_left _ (Nat.le_of_lt hk))
 rw [Nat.div_eq_of_lt this,Nat.zero_sub]
end
end Go.Dg

namespace Go.Proofs.YtapjnenbofmliaaGreatDoor
open Go.Vl Go.RowKit Go.Dg
theorem Q2m (a b:Nat) (ha:(digs E9 a).length≤1000000000):Qaf Tryz.prog 117 [di (digs E9 a),di (digs E9 b)] (.int .i64 (cmpN a b)):=by
 refine Qac (tb:=[]) 41 [.tmp 4] [0,1,4,5,10,15,20,31,40] mixed Tryz.func117 rfl (by kernel_rfl) (by kernel_rfl) (by kernel_rfl) (by kernel_rfl) ?_;by_cases hl:(digs E9 a).length=(digs E9 b).length
 ·have hl':(((digs E9 a).length:Int) != ((digs E9 b).length:Int))=false:=by simp [hl]
  have hw:IntKind.i64.wrap (((digs E9 a).length:Int)-1)=((digs E9 a).length:Int)-1:=Qai (by omega) (by omega);simp -implicitDefEqProofs only [go_sem,seval,di,List.length_map,hl',hw];refine Qa7 mixed (fun i:{i:Nat // i≤(digs E9 a).length∧a/E9^i=b/E9^i}=>St.of [(0,di (digs E9 a)),(1,di (digs E9 b)),(4,.int .i64 0),(5,.int .i64 ((i.1:Int)-1))] []) (fun i=>i.1)
   ⟨(digs E9 a).length,Nat.le_refl _,by rw [Qa3 E9_2 (Nat.le_refl _),hl,Qa3 E9_2 (Nat.le_refl _)]⟩ ?_ ?_
  ·exact Qbc (by simp [Qag,lkp,ren1,ren0,di])
  ·rintro⟨i,hi,he⟩;cases i with
   |zero=>
    have h1:((0:Int)≤((0:Nat):Int)-1)=False:=by simp
    have hab:a=b:=by simpa using he
    subst hab;simp -implicitDefEqProofs only [go_sem,seval,di,h1,Qwh]
   |succ i=>
    have hs:(((i+1:Nat):Int)-1)=(i:Int):=by omega
    have h1:((0:Int)≤(i:Int))=True:=by simp
    have hga:=Qam E9_2 (show i<(digs E9 a).length by omega);have hgb:=Qam E9_2 (show i<(digs E9 b).length by omega);by_cases hlt:a/E9^i%E9<b/E9^i%E9
    ·have h2:(((a/E9^i%E9:Nat):Int)<((b/E9^i%E9:Nat):Int))=True:=by simp only [eq_iff_iff,iff_true];omega
     have hc:=Qqg (Qgn (by decide) he hlt);simp -implicitDefEqProofs only [go_sem,seval,di,hs,h1,Qdk,hga,hgb,h2,hc];exact Qah _ _ (by kernel_rfl)
    ·have h2:(((a/E9^i%E9:Nat):Int)<((b/E9^i%E9:Nat):Int))=False:=by simp only [eq_iff_iff,iff_false];omega
     by_cases hgt:b/E9^i%E9<a/E9^i%E9
     ·have h3:(((b/E9^i%E9:Nat):Int)<((a/E9^i%E9:Nat):Int))=True:=by simp only [eq_iff_iff,iff_true];omega
      have hc:=Qqh (Qgn (by decide) he.symm hgt);simp -implicitDefEqProofs only [go_sem,seval,di,hs,h1,Qdk,hga,hgb,h2,h3,hc];exact⟨Qah _ _ (by kernel_rfl),Qah _ _ (by kernel_rfl)⟩
     ·have h3:(((b/E9^i%E9:Nat):Int)<((a/E9^i%E9:Nat):Int))=False:=by simp only [eq_iff_iff,iff_false];omega
      have hw2:IntKind.i64.wrap ((i:Int)-1)=(i:Int)-1:=Qai (by omega) (by omega);simp -implicitDefEqProofs only [go_sem,seval,di,hs,h1,Qdk,hga,hgb,h2,h3,hw2];refine⟨Qah _ _ (by kernel_rfl),Qah _ _ (by kernel_rfl),⟨i,by omega,Qlr (by decide) he (by omega)⟩,by simp,?_⟩;exact Qbc (by simp [Qag,lkp,ren1,ren0,di])
 ·have hl':(((digs E9 a).length:Int) != ((digs E9 b).length:Int))=true:=by simp;omega
  by_cases hlt:(digs E9 a).length<(digs E9 b).length
  ·have h2:(((digs E9 a).length:Int)<((digs E9 b).length:Int))=True:=by simp;omega
   have hc:=Qqg (Qr6 E9_2 hlt);simp -implicitDefEqProofs only [go_sem,seval,di,List.length_map,hl',h2,hc]
  ·have h2:(((digs E9 a).length:Int)<((digs E9 b).length:Int))=False:=by simp;omega
   have hc:=Qqh (Qr6 E9_2 (show(digs E9 b).length<(digs E9 a).length by omega));simp -implicitDefEqProofs only [go_sem,seval,di,List.length_map,hl',h2,hc]
def rI (n:Int):PV:= .agg [.bool (decide (n<0)),di (digs E9 n.natAbs)]
theorem Qd2 (neg:Bool) (m:Nat):Qaf Tryz.prog 45 [.bool neg,di (digs E9 m)] (rI (if neg then -(m:Int)else m)):=by
 refine Qac (tb:=[]) 13 [.cell 4 32] [0,1,4] mixed Tryz.func45 rfl (by kernel_rfl) (by kernel_rfl) (by kernel_rfl) (by kernel_rfl) ?_;by_cases hm:m=0
 ·subst hm;cases neg
  ·simp -implicitDefEqProofs only [go_sem,Nat.reduceAdd,Nat.reduceMul,Nat.reduceEqDiff,Nat.reduceLT,Nat.reduceLeDiff,reduceCtorEq,di,rI,Qan];simp [Qan]
  ·simp -implicitDefEqProofs only [go_sem,Nat.reduceAdd,Nat.reduceMul,Nat.reduceEqDiff,Nat.reduceLT,Nat.reduceLeDiff,reduceCtorEq,di,rI,Qan];simp [Qan]
 ·have h1:((0:Int)<((digs E9 m).length:Int))=True:=by
   have:=mt (Qa4 E9_2).1 hm;simp only [eq_iff_iff,iff_true];have:=List.length_pos_iff.2 this;omega
  cases neg
  ·simp -implicitDefEqProofs only [go_sem,Nat.reduceAdd,Nat.reduceMul,Nat.reduceEqDiff,Nat.reduceLT,Nat.reduceLeDiff,reduceCtorEq,di,rI];have: ¬((m:Int)<0):=by omega
   simp [this]
  ·simp -implicitDefEqProofs only [go_sem,Nat.reduceAdd,Nat.reduceMul,Nat.reduceEqDiff,Nat.reduceLT,Nat.reduceLeDiff,reduceCtorEq,di,rI,List.length_map,h1];have: -(m:Int)<0:=by omega
   simp only [this,decide_true,Int.natAbs_neg,Int.natAbs_natCast]
theorem Qsb (a b:Nat) (hba:b≤a) (ha:(digs E9 a).length≤1000000000):Qaf Tryz.prog 118 [di (digs E9 a),di (digs E9 b)] (di (digs E9 (a-b))):=by
 refine Qac (tb:=[]) 41 [.tmp 4] [0,1,4,5,6,7,8,12,24,32] mixed Tryz.func118 rfl (by kernel_rfl) (by kernel_rfl) (by kernel_rfl) (by kernel_rfl) ?_;simp -implicitDefEqProofs only [go_sem,seval,di];refine Qa7 mixed (fun i:{i:Nat // i≤(digs E9 a).length}=>St.of [(0,di (digs E9 a)),(1,di (digs E9 b)),(4,.nilS),(5,.bs 7 1 0 i.1),(6,.int .i64 (bor E9 a b i.1:Int)),(7,.int .i64 (i.1:Int))]
  [(7,{els:=(lows E9 (a-b) i.1).map fI,esz:=1,ety:=3,fro:=0,live:=true,arr:=true})]) (fun i=>(digs E9 a).length-i.1) ⟨0,Nat.zero_le _⟩ ?_ ?_
 ·refine Qh5 5 7 1 3 rfl rfl rfl (by decide) [(7,7)] rfl ?_ ?_
  ·simp [Qag,lkp,ren1,ren0,di,Qmn]
  ·simp [Qal,lkp,Box.renames,lows]
 ·rintro⟨i,hi⟩;have h0:(0≤(i:Int))=True:=by simp
  have hll:=Qae (B:=E9) (a-b) i;have hbl:=Qls (B:=E9) a b i;have hbl2:=Qls (B:=E9) a b (i+1);have hst:=Qmo E9_2 hba i;have hda:a/E9^i%E9<E9:=Nat.mod_lt _ (by decide);have hdb:b/E9^i%E9<E9:=Nat.mod_lt _ (by decide);have hdc:(a-b)/E9^i%E9<E9:=Nat.mod_lt _ (by decide);have hb1:((i+1)*8≤140737488355328)=True:=by simp;omega
  have hb2:(i+1≤maxLen)=True:=by simp [maxLen];omega
  have hwi:=Qay (a:=i) (by omega);by_cases hA:i<(digs E9 a).length
  ·have hA':((i:Int)<((digs E9 a).length:Int))=True:=by simp;omega
   have hga:=Qam E9_2 hA;have next: ∀s,Le s (St.of [(0,di (digs E9 a)),(1,di (digs E9 b)),(4,.nilS),(5,.bs 7 1 0 (i+1)),(6,.int .i64 (bor E9 a b (i+1):Int)),(7,.int .i64 ((i+1:Nat):Int))]
     [(7,{els:=(lows E9 (a-b) (i+1)).map fI,esz:=1,ety:=3,fro:=0,live:=true,arr:=true})])→
     ∃y:{i:Nat // i≤(digs E9 a).length},(digs E9 a).length-y.1<(digs E9 a).length-i∧
      Le s (St.of [(0,di (digs E9 a)),(1,di (digs E9 b)),(4,.nilS),(5,.bs 7 1 0 y.1),(6,.int .i64 (bor E9 a b y.1:Int)),(7,.int .i64 (y.1:Int))]
       [(7,{els:=(lows E9 (a-b) y.1).map fI,esz:=1,ety:=3,fro:=0,live:=true,arr:=true})]):=
    fun s hle=>⟨⟨i+1,hA⟩,by simp only;omega,hle⟩
   generalize hx:a/E9^i%E9=x at*;generalize hy:b/E9^i%E9=y at*;have hz:(a-b)/E9^i%E9+y+bor E9 a b i=x+E9*bor E9 a b (i+1):=hst;have w1:IntKind.i64.wrap ((x:Int)-(bor E9 a b i:Int))=(x:Int)-(bor E9 a b i:Int):=Qai (by simp only [E9]at*;omega) (by simp only [E9]at*;omega);have w2:IntKind.i64.wrap ((x:Int)-(bor E9 a b i:Int)-(y:Int))=(x:Int)-(bor E9 a b i:Int)-(y:Int):=Qai (by simp only [E9]at*;omega) (by simp only [E9]at*;omega);have fin: ∀t:Int,t=(x:Int)-(bor E9 a b i:Int)-(y:Int)→(t<0→bor E9 a b (i+1)=1∧t+1000000000=(((a-b)/E9^i%E9:Nat):Int))∧(¬t<0→bor E9 a b (i+1)=0∧t=(((a-b)/E9^i%E9:Nat):Int)):=by
    intro t ht;simp only [E9]at*;constructor
    ·intro h;constructor<;>omega
    ·intro h;constructor<;>omega
   by_cases hB:i<(digs E9 b).length
   ·have hB':((i:Int)<((digs E9 b).length:Int))=True:=by simp;omega
    have hgb:=Qam E9_2 hB;rw [hy]at hgb;obtain⟨f1,f2⟩:=fin _ rfl;by_cases hn:(x:Int)-(bor E9 a b i:Int)-(y:Int)<0
    ·have hn':((x:Int)-(bor E9 a b i:Int)-(y:Int)<0)=True:=by simp only [eq_iff_iff,iff_true];exact hn
     obtain⟨k1,k2⟩:=f1 hn;have w3:IntKind.i64.wrap ((x:Int)-(bor E9 a b i:Int)-(y:Int)+1000000000)=(((a-b)/E9^i%E9:Nat):Int):=by rw [k2];exact wrapn (by simp only [E9]at*;omega)
     simp -implicitDefEqProofs only [go_sem,seval,di,List.length_map,hA',hB',h0,Qdk,hga,hgb,w1,w2,w3,hn',hll,Qh8,hb1,hb2,hwi];refine next _ (Qa0 (θ:=[(7,1203)]) rfl ?_ ?_)
     ·simp [Qag,lkp,ren1,ren0,di,k1]
     ·simp [Qal,lkp,Box.renames,Qch]
    ·have hn':((x:Int)-(bor E9 a b i:Int)-(y:Int)<0)=False:=by simp only [eq_iff_iff,iff_false];exact hn
     obtain⟨k1,k2⟩:=f2 hn;simp -implicitDefEqProofs only [go_sem,seval,di,List.length_map,hA',hB',h0,Qdk,hga,hgb,w1,w2,hn',hll,Qh8,hb1,hb2,hwi];refine next _ (Qa0 (θ:=[(7,1203)]) rfl ?_ ?_)
     ·simp [Qag,lkp,ren1,ren0,di,k1]
     ·simp [Qal,lkp,Box.renames,Qch,k2]
   ·have hB':((i:Int)<((digs E9 b).length:Int))=False:=by simp;omega
    have hy0:y=0:=by rw [←hy,Qa3 E9_2 (Nat.le_of_not_lt hB),Nat.zero_mod]
    obtain⟨f1,f2⟩:=fin ((x:Int)-(bor E9 a b i:Int)) (by omega);by_cases hn:(x:Int)-(bor E9 a b i:Int)<0
    ·have hn':((x:Int)-(bor E9 a b i:Int)<0)=True:=by simp only [eq_iff_iff,iff_true];exact hn
     obtain⟨k1,k2⟩:=f1 hn;have w3:IntKind.i64.wrap ((x:Int)-(bor E9 a b i:Int)+1000000000)=(((a-b)/E9^i%E9:Nat):Int):=by rw [k2];exact wrapn (by simp only [E9]at*;omega)
     simp -implicitDefEqProofs only [go_sem,seval,di,List.length_map,hA',hB',h0,Qdk,hga,w1,w3,hn',hll,Qh8,hb1,hb2,hwi];refine next _ (Qa0 (θ:=[(7,1203)]) rfl ?_ ?_)
     ·simp [Qag,lkp,ren1,ren0,di,k1]
     ·simp [Qal,lkp,Box.renames,Qch]
    ·have hn':((x:Int)-(bor E9 a b i:Int)<0)=False:=by simp only [eq_iff_iff,iff_false];exact hn
     obtain⟨k1,k2⟩:=f2 hn;simp -implicitDefEqProofs only [go_sem,seval,di,List.length_map,hA',hB',h0,Qdk,hga,w1,hn',hll,Qh8,hb1,hb2,hwi];refine next _ (Qa0 (θ:=[(7,1203)]) rfl ?_ ?_)
     ·simp [Qag,lkp,ren1,ren0,di,k1]
     ·simp [Qal,lkp,Box.renames,Qch,k2]
  ·have hA':((i:Int)<((digs E9 a).length:Int))=False:=by simp;omega
   have htk:((lows E9 (a-b) i).map fI).take i=(lows E9 (a-b) i).map fI:=List.take_of_length_le (by simp [hll]);have hlt:a-b<E9^i:=Nat.lt_of_le_of_lt (Nat.sub_le _ _) ((Qaj E9_2 a i).1 (by omega));simp -implicitDefEqProofs only [go_sem,seval,di,List.length_map,hA',hll,htk];refine Qab _ _ _ _ _ _ _ _ _ (Qe5 (lows E9 (a-b) i) (by rw [hll];simp [maxLen];omega)) ?_;simp -implicitDefEqProofs only [go_sem,seval,di];rw [Qbb E9_2,Nat.mod_eq_of_lt hlt]
end Go.Proofs.YtapjnenbofmliaaGreatDoor
